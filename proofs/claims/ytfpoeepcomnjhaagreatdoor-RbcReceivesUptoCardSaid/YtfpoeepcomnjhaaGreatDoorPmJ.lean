import Derived.Test.YtfpoeepcomnjhaaGreatDoorPmF
import Derived.Laws.IdiomCopy
import Derived.Laws.MakeOwn
import Derived.Tactics
/-
 THE PURE MACHINE, J: alloc, box, store, buildSlice, makeMap, makeSlice, append: what they do to a state (evE), and that the model's operations do it.
-/
namespace PM
open Go Go.RowKit
def Jf5(P:Program)(t:TypeId):Option (TypeId×Nat×Nat) :=
 match Xs P t with
 | some (e,_,k,b)=>match Jdu P e with
  | some z=>if z.cells.length=k/\k≠0 then some (e,k,b) else none
  | none=>none
 | none=>none
def Oq(k:Nat):List (Nat×PV)->Nat->Option (List (List PV))
 | [],_=>some []
 | (i,p)::r,j=>if i=j then match Gm p.cells,Oq k r (j+1) with
   | some cs,some css=>if cs.length=k then some (cs::css) else none
   | _,_=>none
  else none
def Ny : PV->Bool
 | .agg _=>true
 | p=>p.one
def splice(cs:List PV)(o:Nat)(ns:List PV):List PV:=cs.take o++ns++cs.drop (o+ns.length)
inductive Eff where
 | none
 | obj (l:Nat) (ob:Qg)
 | tok (t n k:Nat)
 | xs (t:Nat) (x:Nat×Nat×List (List PV))
def Eff.app(e:Eff)(s:PSt):PSt :=
 match e with
 | .none=>s
 | .obj l ob=>{ s with H:=upd s.H l (some ob) }
 | .tok t n k=>{ s with T:=upd s.T t (some (n,k)) }
 | .xs t x=>{ s with X:=upd s.X t (some x) }
def Jx : Nat:=140737488351232
def Tb(t:Nat):Bool:=decide (500000000<=t)&&decide (t<1000000000)
def Jzn(k:Nat):PV->Option (List (List PV))
 | .nil=>some []
 | .lst _ k' _ yss=>if k'=k then some yss else none
 | _=>none
def Se(P:Program)(dst:Option Nat)(T:Nat->Option (Nat×Nat))(t t':TypeId)(x y:PV):Option (PV×Eff) :=
 match Jf5 P t,Nm P t',dst with
 | some (_,k,b),true,some d=>
  match Jzn k y with
  | some yss=>
   match x with
   | .nil=>if T d=none then (if yss.length * b<=Jx/\yss.length<=Jx then some (.lst (.own d) k b yss,.tok d yss.length k) else none) else none
   | .lst .full k' b' xss=>if k'=k/\b'=b/\T d=none then (if (xss.length+yss.length) * b<=Jx/\xss.length+yss.length<=Jx then some (.lst (.own d) k b (xss++yss),.tok d (xss.length+yss.length) k) else none) else none
   | .lst (.own t) k' b' xss=>if k'=k/\b'=b/\T t=some (xss.length,k) then (if (xss.length+yss.length) * b<=Jx/\xss.length+yss.length<=Jx then some (.lst (.own t) k b (xss++yss),.tok t (xss.length+yss.length) k) else none) else none
   | _=>none
  | none=>none
 | _,_,_=>none
def Jrr(es:List (PV×List (List PV)))(i:Nat)(e:PV×List (List PV)):List (PV×List (List PV)):=if i<es.length then es.set i e else es++[e]
def Je2(d:TypeDesc)(l:Nat)(es:List (PV×List (List PV)))(k' b:Nat)(tk:Nat->Nat)(k x:PV):Option (PV×Eff) :=
 match x with
 | .lst (.own t) k2 b2 xss=>if Gq d k=true/\k2=k'/\b2=b then (Jh2 k es).map fun r=>
   let i:=match r with|some (i,_)=>i|none=>es.length
   (.any,.obj l (.mapo (Jrr es i (k,xss)) k' b (fun j=>if j=i then t else tk j))) else none
 | _=>none
def evE(P:Program)(dst:Option Nat)(op:Op)(ρ:Operand->PV)(H:Nat->Option Qg)(T:Nat->Option (Nat×Nat))(X:XT):Option (PV×Eff) :=
 match op with
 | .alloc t=>match dst,Jdu P t with
  | some d,some z=>if ((H d).isNone&&decide (d<1000000))=true/\Ny z=true then some (.ref d 0,.obj d (.cells z.cells)) else none
  | _,_=>none
 | .box _ x=>match dst with
  | some d=>if ((H d).isNone&&decide (d<1000000))=true/\Ny (ρ x)=true then some (.ref d 0,.obj d (.cells (ρ x).cells)) else none
  | none=>none
 | .store t x y=>match ρ x with
  | .ref l o=>match H l,tyK P t with
   | some (.cells cs),some (_,n)=>if Ny (ρ y)=true/\(ρ y).cells.length=n/\o+n<=cs.length then some (.any,.obj l (.cells (splice cs o (ρ y).cells))) else none
   | _,_=>none
  | .eref tk k N j o=>match X tk,tyK P t,Gm (ρ y).cells with
   | some (k',b,xss),some (_,n),some ds=>if (Ny (ρ y) && !Tb tk)=true/\k'=k/\xss.length=N/\ds.length=n then (xss[j]?).bind fun cs=>if o+n<=cs.length then some (.any,.xs tk (k',b,xss.set j (splice cs o ds))) else none else none
   | _,_,_=>none
  | _=>none
 | .buildSlice t n parts=>match Jf5 P t,Oq ((Jf5 P t).getD (0,0,0)).2.1 (parts.toList.map fun x=>(x.1,ρ x.2)) 0 with
  | some (_,k,b),some xss=>if xss.length=n/\n * k<=16777216/\n * b<=Jx then some (.lst .full k b xss,.none) else none
  | _,_=>none
 | .makeMap _ r=>match dst,r with
  | some d,none=>if ((H d).isNone&&decide (d<1000000))=true then some (.mp d,.obj d (.map [])) else none
  | _,_=>none
 | .makeSlice t n c=>match Jf5 P t,dst,ρ n,ρ c with
  | some (_,k,b),some d,.int _ n0,.int _ m=>if n0=0/\T d=none then (if 0<=m/\m.toNat * b<=Jx/\m.toNat<=Jx then some (.lst (.own d) k b [],.tok d 0 k) else none) else none
  | _,_,_,_=>none
 | .mapUpdate t m k x=>match ρ m with
  | .mp l=>match H l,Jci P t,Mg (ρ x) with
   | some (.map es),some (d,_),some dv=>if Gq d (ρ k)=true/\Ti dv=true then (Jdw (ρ k) dv es).map fun es'=>(.any,.obj l (.map es')) else none
   | some (.mapo es k' b tk),some (d,_),some _=>Je2 d l es k' b tk (ρ k) (ρ x)
   | _,_,_=>none
  | _=>none
 | .call c=>match c.callee,c.args.toList,c.argTypes.toList with
  | .builtin .append,[x,y],[t,t']=>Se P dst T t t' (ρ x) (ρ y)
  | _,_,_=>none
 | _=>none
def Jjq(P:Program)(o:Oper)(a:Act)(w:World)(K:Act->World->Prop):Prop :=
 (∃ v w',(execOp a.eval o).run P w=.ok (.value v) w'/\K (a.put o.dst v) w')\/(∃ w',(execOp a.eval o).run P w=.ok .skip w'/\K (a.put o.dst undef) w')
section
variable {P:Program} {Gl:GL} {S0:Bs} {w0:World} {s:PSt} {a:Act} {g:GG} {w:World}
theorem Ke.monoD{S S':Ks}{w w':World}(hS:∀ B o,S B o->S' B o)(hw:∀ B o,S B o->w'.cell? ⟨B,o,none⟩=w.cell? ⟨B,o,none⟩)(hm:∀ B,(∀ o,S B o)->w'.heap[B]? = w.heap[B]?){ps:List PV}{vs:List Value}(h:Ke (fun p v=>Js S w p v/\p.one=true) ps vs):Ke (fun p v=>Js S' w' p v/\p.one=true) ps vs :=
 h.mono fun _ _ hxy=>⟨hxy.1.mono hS hw hm,hxy.2⟩
theorem Nb{w w':World}{B:Nat}(h:w'.heap[B]? = w.heap[B]?)(o:Nat):w'.cell? ⟨B,o,none⟩=w.cell? ⟨B,o,none⟩:=World.cell?_of_block (w:=w) (a:=⟨B,o,none⟩) h
theorem Nc{w w':World}{B:Nat}(h:w'.heap[B]? = w.heap[B]?)(o:Nat):w'.frozen? ⟨B,o,none⟩=w.frozen? ⟨B,o,none⟩:=World.frozen?_of_block (w:=w) (a:=⟨B,o,none⟩) h
theorem Kd.exAt(h:Kd Gl S0 w0 s a g){t k b:Nat}{xss:List (List PV)}(hx:s.X t=some (k,b,xss)){B off n cap:Nat}(hh:g.hd t=.slice (some ⟨B,off,none⟩) n cap)(hc:0<cap):off=0/\n=xss.length/\ExB g S0.E w0.heap.size t k xss B cap:=by
 obtain ⟨_,_,_,_,_,⟨e|⟨_,e⟩,_⟩|⟨B',cap',e,_,hB⟩⟩:=h.exs t k b xss hx
 ·rw [e] at hh; cases hh
 ·rw [e] at hh; cases hh; omega
 ·rw [e] at hh; cases hh; exact ⟨rfl,rfl,hB⟩
theorem Kd.exWorld(h:Kd Gl S0 w0 s a g){t k b B cap:Nat}{xss xss':List (List PV)}{w':World}{S':Ks}{vs:List Value}(hx:s.X t=some (k,b,xss))(hh:g.hd t=.slice (some ⟨B,0,none⟩) xss.length cap)(hc:0<cap)(hw:Wa (·=B) g.w w')(hS1:∀ B o,g.S B o->S' B o)(hS2:∀ B o,S' B o->g.S B o\/(g.w.heap.size<=B/\B<w'.heap.size))(hl:xss'.length=xss.length)(hk:∀ cs∈xss',cs.length=k)(hthere:w'.there B 0 (cap * k))(hv:Ke (fun p v=>Js S' w' p v/\p.one=true) xss'.flatten vs)(hr:w'.rangeAt B 0 vs) :
  Kd Gl S0 w0 { s with X:=upd s.X t (some (k,b,xss')) } a { g with w:=w',S:=S' }/\GLe g { g with w:=w',S:=S' }:=by
 obtain ⟨q1,q2,q3,q4,q5,_⟩:=h.exs t k b xss hx;obtain ⟨_,_,r1,r2,r3,r4,r5,r6,r7,r8⟩:=h.exAt hx hh hc;have hblk:∀ B',B'<g.w.heap.size->B'≠B->w'.heap[B']? = g.w.heap[B']?:=fun B' e1 e2=>hw.block B' e1 e2;have hSB:∀ B' o,g.S B' o->B'≠B:=fun B' o ho e=>r4 o (e▸ho);have hSold:∀ B' o,B'<g.w.heap.size->S' B' o->g.S B' o:=fun B' o e ho=>(hS2 B' o ho).resolve_right fun q=>by omega
 have hle:GLe g { g with w:=w',S:=S' }:=⟨hS1,fun B' o ho=>Nb (hblk B' (h.lt _ _ ho) (hSB _ _ ho)) o,fun B' ho=>hblk B' (h.lt _ _ (ho 0)) (hSB _ _ (ho 0)),fun l ob e=>⟨rfl,ob,e,fun cs e=>⟨cs,e,rfl⟩⟩,fun t n k e=>⟨n,e,aI _,fun _=>rfl⟩⟩
 have hsz:=hw.size;have hXB:∀ t' B',XB (upd s.X t (some (k,b,xss'))) { g with w:=w',S:=S' } t' B'->XB s.X g t' B':=by
  rintro t' B' ⟨e1,e2⟩;refine ⟨?_,e2⟩
  by_cases e:t'=t
  ·rw [e,hx]; rfl
  ·rwa [Ka _ _ _ _ e] at e1
 refine ⟨{ hH:=h.hH,hT:=h.hT,defers:=h.defers,len:=h.len,tm:=fun i p v hp hv=>(h.tm i p v hp hv).mono hle,sub:=fun B' o ho=>hS1 _ _ (h.sub B' o ho),new:=fun B' o ho=>?_,lt:=fun B' o ho=>?_,below:=?_,objs:=fun l ob hob=>?_,inj:=h.inj,owns:=fun t' n' k' ht'=>?_,ownsEx:=fun t1 t2 B' h1 h2=>h.ownsEx t1 t2 B' (h1.congr rfl rfl) (h2.congr rfl rfl),ownsObj:=fun t' B' l h1 h2=>h.ownsObj t' B' l (h1.congr rfl rfl) h2,glob:=fun i cs hi=>(h.glob i cs hi).mono hle.S hle.cell hle.blk,exs:=fun t' k' b' xss0 hx'=>?_,exsEx:=fun t1 t2 B' h1 h2=>h.exsEx t1 t2 B' (hXB t1 B' h1) (hXB t2 B' h2),fix:=h.fix,fixT:=h.fixT },hle⟩
 ·rcases hS2 B' o ho with e|⟨e,_⟩
  ·exact h.new B' o e
  ·exact .inr (.inl (bP h.below.size e))
 ·rcases hS2 B' o ho with e|⟨_,e⟩
  ·exact bX (h.lt B' o e) hsz
  ·exact e
 ·exact ⟨hw.os.trans h.below.os,hw.tape.trans h.below.tape,hw.output.trans h.below.output,bP h.below.size hsz,fun i hi he=>(hblk i (bX hi h.below.size) fun e=>r2.elim (fun q=>by omega) fun q=>he (e▸q)).trans (h.below.block i hi he),h.below.dr.trans hw.dr⟩
 ·obtain ⟨k1,k2,k3,k4⟩:=h.objs l ob hob;have hne:g.φ l≠B:=r7 l (by rw [show g.H l=some ob from hob]; rfl);have hb:=hblk _ k2 hne;exact ⟨k1,bX k2 hsz,fun o ho=>k3 o (hSold _ _ k2 ho),k4.mono hle (fun o=>Nb hb o) (fun o=>Nc hb o) (fun arr c hc=>hb.trans hc)⟩
 ·rcases h.owns t' n' k' ht' with hn|⟨B',off',cap',e1,e2,e3⟩
  ·exact .inl hn
  ·refine .inr ⟨B',off',cap',e1,e2,fun hlt=>?_⟩;obtain ⟨f1,f2,f3,f4⟩:=e3 hlt;refine ⟨f1,bX f2 hsz,fun j hj=>?_,fun hk o ho=>f4 hk o (hSold _ _ f2 ho)⟩
   by_cases e:B'=B
   ·subst e;have:t'=t:=r8 t' ⟨n',k',off',cap',ht',e1,hlt⟩;subst this;have hT:g.T t'=some (n',k'):=ht';rw [q1] at hT; cases hT;simp at hj
   ·show (w'.cell? _).isSome=true/\w'.frozen? _=false;rw [Nb (hblk B' f2 e),Nc (hblk B' f2 e)]; exact f3 j hj
 ·by_cases e:t'=t
  ·subst e;have hx'':upd s.X t' (some (k,b,xss')) t'=some (k',b',xss0):=hx';rw [Kn] at hx''; cases hx'';refine ⟨by rw [hl]; exact q1,q2,hk,by rw [hl]; exact q4,by rw [hl]; exact q5,.inr ⟨B,cap,by rw [hl]; exact hh,hc,by rw [hl]; exact r1,r2,bX r3 hsz,fun o ho=>r4 o (hSold _ _ r3 ho),⟨vs,hv,hr⟩,hthere,r7,fun t2 h2=>r8 t2 (h2.congr rfl rfl)⟩⟩
  ·have hx'':upd s.X t (some (k,b,xss')) t'=some (k',b',xss0):=hx';rw [Ka _ _ _ _ e] at hx'';refine (h.exs t' k' b' xss0 hx'').mono hle rfl rfl hsz fun B' off n cap' e1 e2 e3 e4 e5 e6=>?_;have hne:B'≠B:=fun eq=>e (h.exsEx t' t B ⟨by rw [hx'']; rfl,off,n,cap',by rw [<- eq]; exact e1⟩ ⟨by rw [hx]; rfl,0,_,cap,hh,hc⟩);exact ⟨fun o=>Nb (hblk B' e3 hne) o,fun o=>Nc (hblk B' e3 hne) o,fun o ho=>e4 o (hSold _ _ e3 ho),e5,fun t2 h2=>e6 t2 (h2.congr rfl rfl)⟩
theorem Ps{t e:TypeId}{k b:Nat}(h:Jf5 P t=some (e,k,b)):∃ (i:TypeInfo) (z:Value),P.underlying t=some (.slice e)/\P.info? e=some i/\i.size=k/\i.bytes=b/\i.zero=some z/\z.cells.size=k/\k≠0:=by
 unfold Jf5 at h;split at h
 ·rename_i e' x k' b' he;split at h
  ·rename_i z hz;split at h
   ·rename_i hc;cases h;obtain ⟨i,d,h1,h2,h3,h4,h5,h6⟩:=Pt he;obtain ⟨i',zv,hi',hz1,hz2,_⟩:=Jae hz;rw [h2] at hi'; cases hi';refine ⟨i,zv,h1,h2,h5.symm,h6.symm,hz1, ?_,hc.2⟩;rw [<- hc.1,<- hz2];cases zv
    case agg arr=>simp [Value.cells,Nr,PV.cells]
    all_goals
     (simp only [Value.cells,Nr]
      unfold Gk;split <;> simp [PV.cells])
   ·cases h
  ·cases h
 ·cases h
theorem Rel.boxed{p:PV}{v:Value}(h:Rel g p v)(hb:Ny p=true):Ke (Ya g) p.cells v.cells.toList:=by
 cases p
 case agg cs=>
  simp only [Rel,Km] at h;obtain ⟨arr,rfl,h2⟩:=h;exact h2
 case any=>simp [Ny,PV.one] at hb
 case tup vs=>simp [Ny,PV.one] at hb
 all_goals
  (simp only [Rel,Km] at h
   obtain ⟨e1,e2⟩:=h.oneCell rfl;rw [e2];exact .cons ⟨h,e1⟩ .nil)
theorem Jo5{g':GG}{l B:Nat}(h1:g'.φ l=B)(h2:(g'.H l).isSome=true):Rel g' (.ref l 0) (.pointer (some ⟨B,0,none⟩)):=Mi.2 ⟨by rw [h1],h2⟩
theorem Jfk{t:TypeId}{z:PV}(h:Jdu P t=some z)(hb:Ny z=true):∃ i zv,P.info? t=some i/\i.zero=some zv/\Ke (Ya g) z.cells zv.cells.toList:=by
 obtain ⟨i,zv,hi,h1,h2,hone⟩:=Jae h;refine ⟨i,zv,hi,h1, ?_⟩;rw [<- h2];rw [<- h2] at hb;cases zv
 case agg arr=>
  simp only [Nr,PV.cells,Value.cells];exact Jhk fun v hv=>hone v (by simpa [Value.cells] using hv)
 all_goals
  (simp only [Nr] at hb ⊢
   exact Rel.boxed (Jc2 g _) hb)
theorem Jvh(h:Kd Gl S0 w0 s a g)(o:Oper){t:TypeId}{d:Nat}{z:PV}(hop:o.op=.alloc t)(hzk:Jdu P t=some z)(hH:s.H d=none)(hd6:d<1000000)(hb:Ny z=true) :
  Jjq P o a g.w (fun a' w'=>Inv Gl S0 w0 (({ s with H:=upd s.H d (some (.cells z.cells)) }:PSt).put o.dst (.ref d 0)) a' w'):=by
 obtain ⟨i,zv,h1,h2,h3⟩:=Jfk (g:=g) hzk hb;obtain ⟨g',e1,e2,e3,e4,e5,e6⟩:=h.newVar (l:=d) t (by rw [h.hH]; exact hH) hd6 h3;refine .inl ⟨.pointer (some ⟨g.w.heap.size,0,none⟩),g'.w, ?_,⟨g',rfl,e2.put _ (Jo5 e4 e5)⟩⟩;rw [e1];simp [execOp,hop,Instr.alloc,zeroValue,typeInfo,h1,h2,newVar,newRow]
theorem Jz1(h:Kd Gl S0 w0 s a g)(o:Oper){t:TypeId}{d:Nat}{x:Operand}(hop:o.op=.box t x)(hH:s.H d=none)(hd6:d<1000000)(hb:Ny (s.ev x)=true) :
  Jjq P o a g.w (fun a' w'=>Inv Gl S0 w0 (({ s with H:=upd s.H d (some (.cells (s.ev x).cells)) }:PSt).put o.dst (.ref d 0)) a' w'):=by
 obtain ⟨g',e1,e2,e3,e4,e5,e6⟩:=h.newVar (l:=d) t (by rw [h.hH]; exact hH) hd6 ((h.ev x).boxed hb);refine .inl ⟨.pointer (some ⟨g.w.heap.size,0,none⟩),g'.w, ?_,⟨g',rfl,e2.put _ (Jo5 e4 e5)⟩⟩;rw [e1];simp [execOp,hop,Instr.box,newVar,newRow]
theorem Ke.splice{R:PV->Value->Prop}{cs ns:List PV}{vs us:List Value}(h:Ke R cs vs)(hn:Ke R ns us)(o:Nat):Ke R (splice cs o ns) (vs.take o++us++vs.drop (o+us.length)):=by
 unfold PM.splice;rw [hn.1];exact ((h.take o).append hn).append (h.drop _)
theorem Xq{w:World}{B o:Nat}{vs us:List Value}(h:w.rangeAt B 0 vs)(hr:o+us.length<=vs.length)(ht:w.there B 0 vs.length):(w.setCells B o us).rangeAt B 0 (vs.take o++us++vs.drop (o+us.length)):=by
 intro j v hv;rw [aV];have hmin:min o vs.length=o:=by omega
 rw [cR,aR] at hv;simp only [aU,hmin] at hv
 by_cases h1:j<o
 ·rw [if_pos h1,cO,if_pos h1] at hv;rw [World.cell?_setCells_out _ _ _ _ _ (fun _ _=>.inl h1)];have:=h j v hv
  rwa [aV] at this
 ·rw [if_neg h1,aR] at hv
  by_cases h2:j - o<us.length
  ·rw [if_pos h2,aB h2] at hv;cases hv;have:=World.cell?_setCells_in B us o w (fun i hi=>by have:=(ht (o+i) oG).1; rwa [aV] at this) (j - o) h2
   rwa [show o+(j - o)=j by omega] at this
  ·rw [if_neg h2,cH] at hv;rw [World.cell?_setCells_out _ _ _ _ _ (fun _ _=>.inr (by show o+us.length<=j; omega))];have:=h _ v hv
   rwa [show 0+(o+us.length+(j - o - us.length))=j by omega] at this
theorem Jvq(h:Kd Gl S0 w0 s a g)(o:Oper){t:TypeId}{x y:Operand}{l off n:Nat}{r:Bool}{cs:List PV}(hop:o.op=.store t x y)(hx:s.ev x=.ref l off)(hl:s.H l=some (.cells cs))(ht:tyK P t=some (r,n))(hb:Ny (s.ev y)=true)(hn:(s.ev y).cells.length=n)(ho:off+n<=cs.length) :
  Jjq P o a g.w (fun a' w'=>Inv Gl S0 w0 (({ s with H:=upd s.H l (some (.cells (splice cs off (s.ev y).cells))) }:PSt).put o.dst .any) a' w'):=by
 have hgl:g.H l=some (.cells cs):=by rw [h.hH]; exact hl
 obtain ⟨o1,o2,o3,vs,v1,v2,v3⟩:=h.objs l _ hgl;have hxr:=h.ev x;rw [hx,Mi] at hxr;have hyr:=(h.ev y).boxed hb;have hlen:(a.eval y).cells.size=n:=by rw [<- hn,hyr.1]; simp
 obtain ⟨i,d,t1,t2,t3⟩:=Sa ht;have hsz:i.size=n:=((bE t3).2).symm;have hvl:vs.length=cs.length:=v1.1.symm;have hthere:g.w.there (g.φ l) off n:=fun j hj=>by have:=v3 (off+j) oG; rwa [aV] at this
 have hcell1:∀ v∈(a.eval y).cells.toList,v.oneCell'=true:=fun v hv=>by
  obtain ⟨i,hi⟩:=aX hv;obtain ⟨p,hp,hr⟩:=hyr.left hi;exact hr.2
 have hst:=run_storeCells_cells (P:=P) (g.φ l) off (a.eval y).cells.toList 0 g.w (fun j hj=>(hthere j (by simpa [hlen] using hj)).1) (fun j hj=>(hthere j (by simpa [hlen] using hj)).2) hcell1;simp only [cZ] at hst;obtain ⟨h2,e2⟩:=h.setObj (l:=l) (ob':=.cells (splice cs off (s.ev y).cells)) hgl (Pc g.w (g.φ l) off (a.eval y).cells.toList)
  (fun cs' e=>by cases e; exact ⟨_,rfl,by simp [splice,hn]; omega⟩)
  (fun g' hg' hw'=>⟨_,(v1.mono (Ya.mono hg')).splice (hyr.mono (Ya.mono hg')) off,by rw [hw']; exact Xq v2 (by simp [hlen]; omega) v3,by
   rw [hw'];have hlen2:(vs.take off++(a.eval y).cells.toList++vs.drop (off+(a.eval y).cells.toList.length)).length=vs.length:=by simp [hlen]; omega
   rw [hlen2];exact World.there_setCells v3 _ _ _⟩)
 refine .inr ⟨_, ?_,⟨_,rfl,h2.put _ (Rel.any _ _)⟩⟩;simp [execOp,hop,hxr.1,Instr.storeAt,Instr.sureAddr,storeVar,Vy t1,hsz,hlen,hst]
theorem Ry{k:Nat}:∀ {xss:List (List PV)},(∀ cs∈xss,cs.length=k)->xss.flatten.length=xss.length * k
 | [],_=>by simp
 | c::cs,h=>by
  have h1:=h c sG;have h2:=Ry (xss:=cs) (fun x hx=>h x (by simp [hx]));rw [bN,aM,h1,h2,aE,bQ]; omega
theorem Jr6{k:Nat}:∀ {xss:List (List PV)} {j:Nat} {cs:List PV} {o:Nat} {ds:List PV},(∀ c∈xss,c.length=k)->xss[j]? = some cs->o+ds.length<=cs.length->(xss.set j (splice cs o ds)).flatten=splice xss.flatten (j * k+o) ds
 | [],j,cs,_,_,_,h,_=>by simp at h
 | c::r,0,cs,o,ds,hk,h,ho=>by
  simp at h; subst h;simp only [List.set_cons_zero,bN,splice,Nat.zero_mul,aV];rw [List.take_append_of_le_length oG,List.drop_append_of_le_length oG];simp only [cR]
 | c::r,j+1,cs,o,ds,hk,h,ho=>by
  have hc:c.length=k:=hk c sG;have ih:=Jr6 (k:=k) (xss:=r) (j:=j) (cs:=cs) (o:=o) (ds:=ds) (fun x hx=>hk x (by simp [hx])) (by simpa using h) ho;rw [List.set_cons_succ,bN,bN,ih];unfold splice;have e1:(j+1) * k+o - k=j * k+o:=by rw [bQ]; omega
  have e2:(j+1) * k+o+ds.length - k=j * k+o+ds.length:=by rw [bQ]; omega
  have l1:List.take ((j+1) * k+o) c=c:=dU (by rw [hc,bQ]; omega);have l2:List.drop ((j+1) * k+o+ds.length) c=[]:=cQ (by rw [hc,bQ]; omega);rw [List.take_append,List.drop_append,l1,l2,hc,e1,e2];simp
theorem Jt0(h:Kd Gl S0 w0 s a g)(o:Oper){t:TypeId}{x y:Operand}{tk k b N j off n:Nat}{r:Bool}{xss:List (List PV)}{cs ds:List PV}(hop:o.op=.store t x y)(hx:s.ev x=.eref tk k N j off)(hX:s.X tk=some (k,b,xss))(hN:xss.length=N)(ht:tyK P t=some (r,n))(hb:Ny (s.ev y)=true)(hd:Gm (s.ev y).cells=some ds)(hn:ds.length=n)(hcs:xss[j]? = some cs)(ho:off+n<=cs.length) :
  Jjq P o a g.w (fun a' w'=>Inv Gl S0 w0 (({ s with X:=upd s.X tk (some (k,b,xss.set j (splice cs off ds))) }:PSt).put o.dst .any) a' w'):=by
 obtain ⟨q1,q2,q3,q4,q5,q6⟩:=h.exs tk _ _ _ hX;have hxr:=h.ev x;rw [hx] at hxr;simp only [Rel,Km,Kh] at hxr;obtain ⟨⟨B,q,hxv⟩,N',r1,r2,r3⟩:=hxr;rw [q1] at r1; cases r1;obtain ⟨B1,cap1,e1,e2⟩:=r3 hN.symm;rw [hxv] at e2; cases e2;have hj:j<xss.length:=(aH.1 hcs).1;have hyr:=(h.ev y).boxed hb;have hdl:(s.ev y).cells.length=n:=by rw [<- hn,Ik hd]
 have hlen:(a.eval y).cells.size=n:=by rw [<- hdl,hyr.1]; simp
 obtain ⟨i,d,t1,t2,t3⟩:=Sa ht;have hsz:i.size=n:=((bE t3).2).symm;have hck:cs.length=k:=q3 cs (aD hcs);rcases q6 with ⟨_,rfl⟩|⟨B2,cap2,e3,hc0,p1,p2,p3,p4,⟨vs,v1,v2⟩,p5,p6,p7⟩
 ·simp at hj
 ·rw [e3] at e1;simp only [Value.slice.injEq,aO,Addr.mk.injEq,and_true] at e1;obtain ⟨rfl,_,rfl⟩:=e1;have hfl:xss.flatten.length=xss.length * k:=Ry q3;have hjk:j * k+k<=xss.length * k:=by
   have:(j+1) * k<=xss.length * k:=bM _ hj
   rwa [bQ] at this
  have hck2:xss.length * k<=cap2 * k:=bM _ p1;have hvl:vs.length=xss.length * k:=by rw [<- v1.1,hfl]
  have hthere:g.w.there B2 (j * k+off) n:=fun i hi=>by have:=p5 (j * k+off+i) oG; rwa [aV] at this
  have hcell1:∀ v∈(a.eval y).cells.toList,v.oneCell'=true:=fun v hv=>by
   obtain ⟨i,hi⟩:=aX hv;obtain ⟨p,hp,hr⟩:=hyr.left hi;exact hr.2
  have hst:=run_storeCells_cells (P:=P) B2 (j * k+off) (a.eval y).cells.toList 0 g.w (fun j hj=>(hthere j (by simpa [hlen] using hj)).1) (fun j hj=>(hthere j (by simpa [hlen] using hj)).2) hcell1;simp only [cZ] at hst;have hbut:=Pc g.w B2 (j * k+off) (a.eval y).cells.toList;have hdat:=(Gr hyr hd).mono fun _ _ q=>(⟨q.1,q.2.1⟩:Js g.S g.w _ _/\_)
  have hv12:vs.length<=cap2 * k:=by omega
  have hth0:g.w.there B2 0 vs.length:=fun i hi=>p5 i oG;have hk':∀ c∈xss.set j (splice cs off ds),c.length=k:=fun c hc=>by
   rcases List.mem_or_eq_of_mem_set hc with hc|rfl
   ·exact q3 c hc
   ·simp only [splice,aM,aU,bV]; omega
  have hv':Ke (fun p v=>Js g.S g.w p v/\p.one=true) (xss.set j (splice cs off ds)).flatten (vs.take (j * k+off)++(a.eval y).cells.toList++vs.drop (j * k+off+(a.eval y).cells.toList.length)):=by
   rw [Jr6 q3 hcs oG];exact v1.splice hdat (j * k+off)
  obtain ⟨h2,e2'⟩:=h.exWorld (t:=tk) (xss':=xss.set j (splice cs off ds)) (w':=g.w.setCells B2 (j * k+off) (a.eval y).cells.toList) (S':=g.S) hX e3 hc0
   ⟨hbut.os,hbut.tape,hbut.output,dB hbut.size.symm,fun i _ hne=>hbut.block i hne,DR.of_le (dB hbut.drawn.symm)⟩ (fun _ _ e=>e) (fun _ _ e=>.inl e) sG hk' (World.there_setCells p5 _ _ _) (hv'.monoD (fun _ _ e=>e) (fun B' o ho=>hbut.cell fun e=>p4 o (e▸ho)) fun B' ho=>hbut.block _ fun e=>p4 0 (e▸ho 0)) (Xq v2 (by simp [hlen]; omega) hth0)
  refine .inr ⟨_, ?_,⟨_,rfl,h2.put _ (Rel.any _ _)⟩⟩;simp [execOp,hop,hxv,Instr.storeAt,Instr.sureAddr,storeVar,Vy t1,hsz,hlen,hst]
theorem Jd1{k:Nat}:∀ {parts:List (Nat×PV)} {j:Nat} {xss:List (List PV)},Oq k parts j=some xss->xss.length=parts.length/\∀ cs∈xss,cs.length=k
 | [],j,xss,h=>by simp only [Oq] at h; cases h; simp
 | (i,p)::r,j,xss,h=>by
  simp only [Oq] at h;split at h
  ·split at h
   ·rename_i cs css h1 h2;split at h
    ·rename_i hk;cases h;obtain ⟨e1,e2⟩:=Jd1 h2;exact ⟨by simp [e1],fun c hc=>by
      rcases bG.1 hc with rfl|hc
      ·exact hk
      ·exact e2 c hc⟩
    ·cases h
   ·cases h
  ·cases h
theorem Jst{k:Nat}(hk:k≠0):∀ (parts:List (Nat×PV)) (vparts:List (Nat×Value)) (j:Nat) (xss:List (List PV)) (cells:Array Value),
  Ke (fun (x:Nat×PV) (y:Nat×Value)=>x.1=y.1/\Rel g x.2 y.2) parts vparts->Oq k parts j=some xss->cells.size=(j+parts.length) * k ->
  ∃ cells',Instr.fill (fun i=>some (i * k,k)) cells vparts=some cells'/\cells'.size=cells.size/\cells'.toList.take (j * k)=cells.toList.take (j * k) /\
   Ke (fun p v=>Js g.S g.w p v/\p.one=true/\v.oneCell'=true) xss.flatten (cells'.toList.drop (j * k))
 | [],vparts,j,xss,cells,hp,he,hs=>by
  rw [hp.nil_left];simp only [Oq] at he; cases he;exact ⟨cells,rfl,rfl,rfl,by rw [List.drop_of_length_le (by simp at hs ⊢; omega)]; exact .nil⟩
 | (i,p)::parts,vparts,j,xss,cells,hp,he,hs=>by
  obtain ⟨⟨i',v⟩,vparts',rfl,⟨e1,e2⟩,hp'⟩:=hp.cons_left;simp only at e1 e2;subst e1;simp only [Oq] at he;split at he
  ·rename_i hij;subst hij;split at he
   ·rename_i cs css h1 h2;split at he
    ·rename_i hck;cases he;have hlen:=Ik h1;have hbox:Ny p=true:=by
      cases p <;> first|rfl|skip
      all_goals (simp [PV.cells,Gm,Bw] at h1)
     have hcells:=e2.boxed hbox;have hvn:v.cells.size=k:=by rw [<- hck,hlen,hcells.1]; simp
     have hik:(i+(parts.length+1)) * k=i * k+k+parts.length * k:=by rw [cE,cE]; omega
     have hsz:i * k+k<=cells.size:=by rw [hs]; simp only [aE]; rw [hik]; omega
     have hset:=Jjv (i * k) v.cells.toList 0 cells (by simp [hvn]; omega);simp only [cZ] at hset;have hset':(v.cells.zipIdx.foldl (fun cs (x:Value×Nat)=>cs.setIfInBounds (i * k+x.2) x.1) cells).toList=cells.toList.take (i * k)++v.cells.toList++cells.toList.drop (i * k+k):=by
      rw [<- Array.foldl_toList,Array.toList_zipIdx,hset];simp [hvn]
     have hsize:(v.cells.zipIdx.foldl (fun cs (x:Value×Nat)=>cs.setIfInBounds (i * k+x.2) x.1) cells).size=cells.size:=by
      rw [<- bB,hset'];simp [hvn]; omega
     obtain ⟨cells',f1,f2,f3,f4⟩:=Jst hk parts vparts' (i+1) css (v.cells.zipIdx.foldl (fun cs (x:Value×Nat)=>cs.setIfInBounds (i * k+x.2) x.1) cells) hp' h2 (by rw [hsize,hs]; simp only [aE]; congr 1; omega);have hmul:(i+1) * k=i * k+k:=by rw [cE]; omega
     rw [hmul,hset'] at f3;have hl1:(cells.toList.take (i * k)).length=i * k:=by simp; omega
     have htake:(cells.toList.take (i * k)++v.cells.toList++cells.toList.drop (i * k+k)).take (i * k+k)=cells.toList.take (i * k)++v.cells.toList:=by
      rw [List.take_append_of_le_length (by simp [hvn]; omega)];exact dU (by simp [hvn]; omega)
     rw [htake] at f3;refine ⟨cells', ?_,by rw [f2,hsize], ?_, ?_⟩
     ·unfold Instr.fill;simp only;rw [if_neg (by simp [hvn]; omega)];exact f1
     ·have:=congrArg (List.take (i * k)) f3;rw [List.take_take,Nat.min_eq_left oG,List.take_left' hl1] at this;exact this
     ·have hdrop:cells'.toList.drop (i * k)=v.cells.toList++cells'.toList.drop (i * k+k):=by
       have h3:=congrArg (List.drop (i * k)) f3;rw [List.drop_take,show i * k+k - i * k=k by omega,List.drop_left' hl1] at h3;rw [<- h3,show i * k+k=i * k+k from rfl,<- dL,bZ]
      rw [hdrop,bN];rw [hmul] at f4;exact (Gr hcells h1).append f4
    ·cases he
   ·cases he
  ·cases he
theorem Jkr(h:Kd Gl S0 w0 s a g)(o:Oper){t e:TypeId}{n k b:Nat}{parts:Array (Nat×Operand)}{xss:List (List PV)}(hop:o.op=.buildSlice t n parts)(hk:Jf5 P t=some (e,k,b))(he:Oq k (parts.toList.map fun x=>(x.1,s.ev x.2)) 0=some xss)(hn:xss.length=n)(hb1:n * k<=16777216)(hb2:n * b<=Jx) :
  Jjq P o a g.w (fun a' w'=>Inv Gl S0 w0 (s.put o.dst (.lst .full k b xss)) a' w'):=by
 obtain ⟨i,z,k1,k2,k3,k4,k5,k6,k7⟩:=Ps hk;obtain ⟨e1,e2⟩:=Jd1 he;have hp:Ke (fun (x:Nat×PV) (y:Nat×Value)=>x.1=y.1/\Rel g x.2 y.2) (parts.toList.map fun x=>(x.1,s.ev x.2)) (parts.toList.map fun x=>(x.1,a.eval x.2)) :=
  ⟨by simp,fun i x y hx hy=>by
   simp only [aL] at hx hy;cases hp:parts.toList[i]? with
   | none=>rw [hp] at hx; cases hx
   | some q=>
    rw [hp] at hx hy;cases hx; cases hy;exact ⟨rfl,h.ev q.2⟩⟩
 have hzero:((Array.range (n * k)).map (z.cells[· % z.cells.size]!)).size=(0+(parts.toList.map fun x=>(x.1,s.ev x.2)).length) * k:=by simp at e1 ⊢; rw [<- e1,hn]
 obtain ⟨cells',f1,f2,f3,f4⟩:=Jst (g:=g) k7 _ _ 0 xss _ hp he hzero;simp only [Nat.zero_mul,List.drop_zero] at f4;obtain ⟨h2,g2⟩:=h.newRow cells' e cells'.size;have hlt:n<=Jx:=by
  have:n * 1<=n * k:=Nat.mul_le_mul_left n oG;unfold Jx; omega
 refine .inl ⟨.slice (some ⟨g.w.heap.size,0,none⟩) n n,g.w.alloc (.cells cells' e), ?_,⟨_,rfl,h2.put _ ?_⟩⟩
 ·have hle:¬ (16777216<n * k):=by omega
  have hrun:(Instr.buildSlice t n (parts.map fun (i,x)=>(i,a.eval x))).run P g.w=.ok (.slice (some ⟨g.w.heap.size,0,none⟩) n n) (g.w.alloc (.cells cells' e)):=by
   have f1':Instr.fill (fun i=>some (i * k,k)) ((Array.range (n * k)).map (z.cells[· % z.cells.size]!)) (parts.toList.map fun x=>(x.1,a.eval x.2))=some cells':=f1
   by_cases hz0:n * k=0
   ·have hr1:∀ f:Nat->Value,(Array.range 0).map f=#[]:=fun f=>by simp [Array.range]
    rw [hz0,hr1] at f1';simp only [Instr.buildSlice,Sem.run_bind,run_underlying k1,Result.andThen_ok,Vy k2,k3];simp [hz0,hr1,f1',newRow]
   ·simp only [Instr.buildSlice,Sem.run_bind,run_underlying k1,Result.andThen_ok,Vy k2,k3];simp [hle,hz0,zeroValue,typeInfo,k2,k5,f1',newRow]
  simp [execOp,hop,hrun]
 ·simp only [Rel,Km,Kh,Js];rw [hn];refine ⟨hb2,by unfold Jx at hlt; exact hlt,by simp,.inr ⟨g.w.heap.size,0,n,rfl,aI _,fun _=>rfl, ?_⟩⟩;refine Be e2 (vs:=cells'.toList) ⟨f4.1,fun i p v hp hv=>?_⟩ (La _ _ _) (fun j hj=>.inr ⟨rfl,by simpa using hj⟩);have:=f4.2 i p v hp hv;exact ⟨this.1.mono g2.S g2.cell g2.blk,this.2.1⟩
theorem Jqg(h:Kd Gl S0 w0 s a g)(o:Oper){t:TypeId}{d:Nat}(hop:o.op=.makeMap t none)(hH:s.H d=none)(hd6:d<1000000) :
  Jjq P o a g.w (fun a' w'=>Inv Gl S0 w0 (({ s with H:=upd s.H d (some (.map [])) }:PSt).put o.dst (.mp d)) a' w'):=by
 obtain ⟨h1,e1⟩:=h.grow' (Mx g.w (.map #[] 0));have hz:=h.below.size;have hl:g.H d=none:=by rw [h.hH]; exact hH
 obtain ⟨h2,e2⟩:=h1.addObj (l:=d) (B:=g.w.heap.size) (ob:=.map []) hl hd6 (.inl oG) (by show g.w.heap.size<(g.w.alloc _).heap.size; simp) (fun o ho=>by have:=h.lt _ _ ho; omega)
  (fun l' hl'=>h.phi_lt l' hl') (fun t ht=>h.spare_lt t (ht.congr rfl rfl)) (fun t ht=>h.xb_lt t (ht.congr rfl)) (fun g' hg' hw'=>⟨#[],0,⟨by rw [hw']; exact heap_alloc_new g.w _,.empty⟩,.nil⟩)
 refine .inl ⟨.map (some g.w.heap.size),_, ?_,⟨_,rfl,h2.put _ ?_⟩⟩
 ·simp [execOp,hop,Instr.makeMap,newObj,Sem.run]
 ·simp [Rel,Km,Kh,upd]
theorem Jxr(h:Kd Gl S0 w0 s a g)(o:Oper){t:TypeId}{m k x:Operand}{l k' b:Nat}{tk:Nat->Nat}{es:List (PV×List (List PV))}{d:TypeDesc}{z r:PV}{ef:Eff}(hop:o.op=.mapUpdate t m k x)(hm:s.ev m=.mp l)(hH:s.H l=some (.mapo es k' b tk))(hkd:Jci P t=some (d,z))(he:Je2 d l es k' b tk (s.ev k) (s.ev x)=some (r,ef)) :
  Jjq P o a g.w (fun a' w'=>Inv Gl S0 w0 ((ef.app s).put o.dst r) a' w'):=by
 unfold Je2 at he;split at he
 ·rename_i t' k2 b2 xss hxv;split at he
  ·rename_i hc;obtain ⟨hd,rfl,rfl⟩:=hc;obtain ⟨r0,hr0,he⟩:=aC.1 he;simp only [aK] at he;obtain ⟨rfl,rfl⟩:=he;have hgl:g.H l=some (.mapo es k2 b2 tk):=by rw [h.hH]; exact hH
   obtain ⟨o1,o2,o3,hk0,arr,clock,⟨b1,b0⟩,b2',b3⟩:=h.objs l _ hgl;obtain ⟨kt,et,m1,m2,m3,m4,m5⟩:=Xv hkd;have hmx:a.eval m=.map (some (g.φ l)):=by have:=h.ev m; rw [hm] at this; exact this.1
   have hk:=h.ev k;have hkv:Js g.S g.w (s.ev k) (a.eval k):=by
    revert hk hd;cases s.ev k <;> intro hd hk <;> first|exact hk|(cases d <;> simp [Gq] at hd; done)|skip
    cases d <;> simp only [Gq] at hd <;> try cases hd
    obtain ⟨x,y,e⟩:=Hn hd;rw [e] at hk ⊢;exact Jd0 hk
   have hx:Kh g (.lst (.own t') k2 b2 xss) (a.eval x):=by have:=h.ev x; rw [hxv] at this; exact this
   have hck:=Ol (P:=P) (w:=g.w) m2 m5 hd hkv false;have fin:∀ (es':List (PV×List (List PV))) (tk':Nat->Nat) (arr':Array MapEntry) (clock':Nat),Ff arr' clock'->arr'.size=es'.length ->
     (∀ g':GG,GLe g g'->∀ (i:Nat) (e:PV×List (List PV)) (m:MapEntry),es'[i]? = some e->arr'[i]? = some m->Js g'.S g'.w e.1 m.key/\Kh g' (.lst (.own (tk' i)) k2 b2 e.2) m.val) ->
     (Instr.mapUpdate t (.map (some (g.φ l))) (a.eval k) (a.eval x)).run P g.w=.ok () { g.w with heap:=g.w.heap.setIfInBounds (g.φ l) (.map arr' clock') } ->
     Jjq P o a g.w (fun a' w'=>Inv Gl S0 w0 (({ s with H:=upd s.H l (some (.mapo es' k2 b2 tk')) }:PSt).put o.dst .any) a' w'):=by
    intro es' tk' arr' clock' hbo hsz hall hrun;obtain ⟨hs1,hs2⟩:=MapKept.heap_set (o':=.map arr' clock') b1;obtain ⟨h2,e2⟩:=h.setObj (l:=l) (ob':=.mapo es' k2 b2 tk') (w':={ g.w with heap:=g.w.heap.setIfInBounds (g.φ l) (.map arr' clock') }) hgl
     ⟨rfl,rfl,rfl,by simp,fun r hr=>hs2 r hr,rfl⟩ (fun cs e=>by cases e) (fun g' hg' hw'=>⟨hk0,arr',clock',⟨by rw [hw']; exact hs1,hbo⟩,hsz,hall g' hg'⟩)
    refine .inr ⟨_, ?_,⟨_,rfl,h2.put _ (Rel.any _ _)⟩⟩;simp [execOp,hop,hmx,hrun]
   rcases Jpb (P:=P) m2 m5 hd hkv b2' b3 hr0 with ⟨rfl,hfk⟩|⟨i,ys,m',key,rfl,hkey,hfk,h3,h4⟩
   ·refine fin (Jrr es es.length (s.ev k,xss)) (fun j=>if j=es.length then t' else tk j) (arr.push { key:=a.eval k,val:=a.eval x,born:=clock }) (clock+1) (b0.push _ _) (by simp [Jrr,b2']) (fun g' hg' i e m he' hm'=>?_) ?_
    ·unfold Jrr at he';rw [if_neg (Nat.lt_irrefl _),aR] at he';rw [Array.getElem?_push] at hm'
     by_cases hi:i<es.length
     ·rw [if_pos hi] at he';rw [if_neg oG] at hm';obtain ⟨q1,q2⟩:=b3 i e m he' hm';rw [if_neg oG];exact ⟨q1.mono hg'.S hg'.cell hg'.blk,q2.mono hg'⟩
     ·rw [if_neg hi] at he';have hie:i=es.length:=by
       have:=(aH.1 he').1;simp at this; omega
      subst hie;rw [if_pos b2'.symm] at hm';simp at he'; cases hm'; subst he';rw [if_pos rfl];exact ⟨hkv.mono hg'.S hg'.cell hg'.blk,hx.mono hg'⟩
    ·simp [Instr.mapUpdate,run_underlying m1,MapKept.run_getObj_map b1,hck,hfk,MapKept.run_setObj_map _ b1]
   ·have hil:i<es.length:=(aH.1 hkey).1;refine fin (Jrr es i (s.ev k,xss)) (fun j=>if j=i then t' else tk j) (arr.modify i fun e=>{ e with key:=a.eval k,val:=a.eval x }) clock (b0.modify i fun _=>rfl) (by simp [Jrr,hil,b2']) (fun g' hg' j e m he' hm'=>?_) ?_
    ·unfold Jrr at he';rw [if_pos hil,cD] at he';rw [dX] at hm'
     by_cases hij:i=j
     ·subst hij;rw [if_pos rfl,if_pos hil] at he';rw [if_pos rfl,h3] at hm';cases he'; cases hm';simp only [if_true];exact ⟨hkv.mono hg'.S hg'.cell hg'.blk,hx.mono hg'⟩
     ·rw [if_neg hij] at he' hm';obtain ⟨q1,q2⟩:=b3 j e m he' hm';rw [if_neg (fun e=>hij e.symm)];exact ⟨q1.mono hg'.S hg'.cell hg'.blk,q2.mono hg'⟩
    ·have hks:(Instr.keyThatStays (((arr[i]?).map (·.key)).getD (a.eval k)) (a.eval k)).run P g.w=.ok (a.eval k) g.w:=by
      rw [h3];simp only [aZ,dZ,h4];exact Jim hd hkv
     simp [Instr.mapUpdate,run_underlying m1,MapKept.run_getObj_map b1,hck,hfk,hks,MapKept.run_setObj_map _ b1]
  ·cases he
 ·cases he
theorem Jmg(h:Kd Gl S0 w0 s a g)(o:Oper){t:TypeId}{m k x:Operand}{l:Nat}{es es':List (PV×PV)}{d:TypeDesc}{z dv:PV}(hop:o.op=.mapUpdate t m k x)(hm:s.ev m=.mp l)(hH:s.H l=some (.map es))(hkd:Jci P t=some (d,z))(hdv:Mg (s.ev x)=some dv)(hd:Gq d (s.ev k)=true)(hf:Ti dv=true)(hp:Jdw (s.ev k) dv es=some es') :
  Jjq P o a g.w (fun a' w'=>Inv Gl S0 w0 (({ s with H:=upd s.H l (some (.map es')) }:PSt).put o.dst .any) a' w'):=by
 have hgl:g.H l=some (.map es):=by rw [h.hH]; exact hH
 obtain ⟨o1,o2,o3,arr,clock,⟨b1,b0⟩,b2⟩:=h.objs l _ hgl;obtain ⟨kt,et,m1,m2,m3,m4,m5⟩:=Xv hkd;have hmx:a.eval m=.map (some (g.φ l)):=by have:=h.ev m; rw [hm] at this; exact this.1
 have hk:=h.ev k;have hkv:Js g.S g.w (s.ev k) (a.eval k):=by
  revert hk hd;cases s.ev k <;> intro hd hk <;> first|exact hk|(cases d <;> simp [Gq] at hd; done)|skip
  cases d <;> simp only [Gq] at hd <;> try cases hd
  obtain ⟨x,y,e⟩:=Hn hd;rw [e] at hk ⊢;exact Jd0 hk
 have hx:Js g.S g.w dv (a.eval x):=Jfn ((h.ev x).relA hdv) hdv;have hc:=Ol (P:=P) (w:=g.w) m2 m5 hd hkv false;have fin:∀ o':Obj,∀ arr' clock',o'=.map arr' clock'->Ff arr' clock'->(∀ g':GG,GLe g g'->Ke (Jip g'.S g'.w) es' arr'.toList)->(Instr.mapUpdate t (.map (some (g.φ l))) (a.eval k) (a.eval x)).run P g.w=.ok () { g.w with heap:=g.w.heap.setIfInBounds (g.φ l) o' } ->
   Jjq P o a g.w (fun a' w'=>Inv Gl S0 w0 (({ s with H:=upd s.H l (some (.map es')) }:PSt).put o.dst .any) a' w'):=by
  intro o' arr' clock' ho' hbo hall hrun;subst ho';obtain ⟨hs1,hs2⟩:=MapKept.heap_set (o':=.map arr' clock') b1;obtain ⟨h2,e2⟩:=h.setObj (l:=l) (ob':=.map es') (w':={ g.w with heap:=g.w.heap.setIfInBounds (g.φ l) (.map arr' clock') }) hgl
   ⟨rfl,rfl,rfl,by simp,fun r hr=>hs2 r hr,rfl⟩ (fun cs e=>by cases e) (fun g' hg' hw'=>⟨arr',clock',⟨by rw [hw']; exact hs1,hbo⟩,hall g' hg'⟩)
  refine .inr ⟨_, ?_,⟨_,rfl,h2.put _ (Rel.any _ _)⟩⟩;simp [execOp,hop,hmx,hrun]
 have up:∀ g':GG,GLe g g'->Ke (Jip g'.S g'.w) es arr.toList:=fun g' hg'=>b2.mono fun _ _ q=>⟨q.1.mono hg'.S hg'.cell hg'.blk,q.2.1.mono hg'.S hg'.cell hg'.blk,q.2.2⟩
 have new:∀ g':GG,GLe g g'->∀ b,Jip g'.S g'.w (s.ev k,dv) ({ key:=a.eval k,val:=a.eval x,born:=b }:MapEntry):=fun g' hg' b=>⟨hkv.mono hg'.S hg'.cell hg'.blk,hx.mono hg'.S hg'.cell hg'.blk,hf⟩
 rcases Jm3 (P:=P) m2 m5 hd hkv b2 hp with ⟨rfl,hfk⟩|⟨j,m',hfk,h3,h4,rfl⟩
 ·refine fin _ (arr.push { key:=a.eval k,val:=a.eval x,born:=clock }) (clock+1) rfl (b0.push _ _) (fun g' hg'=>?_) ?_
  ·rw [Array.toList_push];exact (up g' hg').append (.cons (new g' hg' clock) .nil)
  ·simp [Instr.mapUpdate,run_underlying m1,MapKept.run_getObj_map b1,hc,hfk,MapKept.run_setObj_map _ b1]
 ·have h3':arr[j]? = some m':=by simpa using h3
  refine fin _ (arr.modify j fun e=>{ e with key:=a.eval k,val:=a.eval x }) clock rfl (b0.modify j fun _=>rfl) (fun g' hg'=>?_) ?_
  ·refine ⟨by simp [(up g' hg').1],fun i p q hp' hq=>?_⟩;have hj:j<arr.size:=(dG.1 h3').1;rw [cD] at hp';rw [bR,dX] at hq
   by_cases hij:j=i
   ·subst hij;rw [if_pos rfl] at hp' hq;rw [h3'] at hq;split at hp'
    ·cases hp'; cases hq;exact new g' hg' m'.born
    ·cases hp'
   ·rw [if_neg hij] at hp' hq;exact (up g' hg').2 i p q hp' (by simpa using hq)
  ·have hks:(Instr.keyThatStays (((arr[j]?).map (·.key)).getD (a.eval k)) (a.eval k)).run P g.w=.ok (a.eval k) g.w:=by
    rw [h3'];simp only [aZ,dZ,h4];exact Jim hd hkv
   simp [Instr.mapUpdate,run_underlying m1,MapKept.run_getObj_map b1,hc,hfk,hks,MapKept.run_setObj_map _ b1]
end
end PM
namespace PM
open Go Go.RowKit
section
variable {P:Program} {Gl:GL} {S0:Bs} {w0:World} {s:PSt} {a:Act} {g:GG} {w:World}
theorem Jcw{S:Ks}{k b:Nat}{xss:List (List PV)}{v:Value}(h:Js S w (.lst .frozen k b xss) v) :
  ∃ base cap,v=.slice base xss.length cap/\xss.length<=cap/\(∀ cs∈xss,cs.length=k)/\(base=none->cap=0/\xss=[]) /\
   ∃ vs:List Value,vs.length=xss.length * k/\Ke (fun p v=>Js S w p v/\p.one=true) xss.flatten vs/\(∀ v∈vs,v.oneCell'=true) /\
    ∀ B off,base=some ⟨B,off,none⟩->Wy S w k xss B off/\(∀ j u,vs[j]? = some u->w.cell? ⟨B,off+j,none⟩=some u):=by
 simp only [Js] at h;obtain ⟨_,_,_,⟨rfl|⟨ad,rfl⟩,rfl⟩|⟨B,off,cap,rfl,h2,_,h3⟩⟩:=h
 ·exact ⟨none,0,rfl,aI _,by simp,fun _=>⟨rfl,rfl⟩,[],by simp,.nil,by simp,fun B off e=>by cases e⟩
 ·exact ⟨some ad,0,rfl,aI _,by simp,fun e=>(by cases e),[],by simp,.nil,by simp,fun B off _=>⟨by simp [Wy],fun j u hu=>by simp at hu⟩⟩
 ·obtain ⟨c1,c2⟩:=h3.cells;obtain ⟨vs,v1,v2,v3⟩:=c1.values;refine ⟨some ⟨B,off,none⟩,cap,rfl,h2,fun cs hcs=>?_,fun e=>(by cases e),vs,by rw [<- v1.1,c2],⟨v1.1,fun i x y hx hy=>⟨v1.2 i x y hx hy,((Wp _ _ _).1 c1 i x hx).1⟩⟩,v3,fun B' off' e=>?_⟩
  ·obtain ⟨i,hi⟩:=aX hcs;exact ((Xu k xss B off).1 h3 i cs hi).1
  ·cases e; exact ⟨h3,v2⟩
structure Base (g:GG) (t k b:Nat) (xss:List (List PV)) (v:Value):Prop where
 data:Js g.S g.w (.lst .frozen k b xss) v
 tok:(g.T t=none/\(∀ base cap,v=.slice base xss.length cap->cap=xss.length))\/(g.T t=some (xss.length,k)/\v=g.hd t)
theorem Jl8 : Jx=140737488351232:=rfl
theorem Jcq{g':GG}{t k b:Nat}{xss:List (List PV)}{v:Value}(h:Js g'.S g'.w (.lst .frozen k b xss) v)(hT:g'.T t=some (xss.length,k))(hh:g'.hd t=v):Rel g' (.lst (.own t) k b xss) v :=
 by simp only [Rel,Km,Kh]; exact ⟨h,xss.length,hT,aI _,fun _=>hh.symm⟩
theorem Jt4(h:Kd Gl S0 w0 s a g){ty t t' e tk k b:Nat}{xss yss:List (List PV)}{v u:Value}(hk:Jf5 P t=some (e,k,b))(ht':Nm P t'=true)(hb:Base g tk k b xss v){b':Nat}(hy:Js g.S g.w (.lst .frozen k b' yss) u)(hs1:(xss.length+yss.length) * b<=Jx)(hs2:xss.length+yss.length<=Jx) :
  ∃ v' g',(Builtin.append_ #[t,t'] ty #[v,u]).run P g.w=.ok v' g'.w/\Kd Gl S0 w0 { s with T:=upd s.T tk (some (xss.length+yss.length,k)) } a g'/\Rel g' (.lst (.own tk) k b (xss++yss)) v':=by
 rw [Jl8] at hs1 hs2;obtain ⟨i,z,k1,k2,k3,k4,k5,k6,k7⟩:=Ps hk;have hX:s.X tk=none:=h.noX fun n e=>by
  rcases hb.tok with ⟨q,_⟩|⟨q,_⟩
  ·rw [q] at e; cases e
  ·rw [q] at e; cases e; exact k7 rfl
 obtain ⟨e',ht2⟩:=Ng ht';obtain ⟨base,cap,rfl,x1,x2,x3,olds,o1,o2,o3,o4⟩:=Jcw hb.data;obtain ⟨ybase,ycap,rfl,y1,y2,y3,news,n1,n2,n3,n4⟩:=Jcw hy
 -- the source
 have hsrc:Src P i.size t' (.slice ybase yss.length ycap) yss.length news g.w:=by
  cases ybase with
  | none=>
   obtain ⟨q1,q2⟩:=y3 rfl;subst q2;subst q1;have hn0:news=[]:=aQ (by simpa using n1);rw [hn0];exact Src.ofNil g.w ht2 0
  | some ad=>
   have hcase:(yss=[]/\news=[])\/∃ B off,ad=⟨B,off,none⟩:=by
    have:=hy;simp only [Js] at this;obtain ⟨_,_,_,⟨_,q⟩|⟨B,off,_,q,_⟩⟩:=this
    ·subst q; exact .inl ⟨rfl,aQ (by simpa using n1)⟩
    ·exact .inr ⟨B,off,by simp only [Value.slice.injEq,aO] at q; exact q.1⟩
   rcases hcase with ⟨q1,q2⟩|⟨B,off,rfl⟩
   ·subst q1; subst q2;exact Src.ofSlice g.w ht2 _ _ _ [] sG (fun j u hu=>by simp at hu) (fun u hu=>by cases hu)
   ·exact Src.ofSlice g.w ht2 _ _ _ news (by rw [n1,k3]) (fun j u hu=>by rw [Addr.add_mid]; exact (n4 B off rfl).2 j u hu) n3
 have hbase:(cap=0/\xss=[])\/∃ B off,base=some ⟨B,off,none⟩:=by
  have:=hb.data;simp only [Js] at this;obtain ⟨_,_,_,⟨q,q2⟩|⟨B,off,_,q,_⟩⟩:=this
  ·exact .inl ⟨(q.slice rfl).2,q2⟩
  ·exact .inr ⟨B,off,by injection q⟩
 have hall:∀ cs∈xss++yss,cs.length=k:=fun cs hcs=>(aW.1 hcs).elim (x2 cs) (y2 cs);have hlen:(xss++yss).length=xss.length+yss.length:=aM
 by_cases hroom:xss.length+yss.length<=cap
 ·by_cases hm:yss=[]
  · -- nothing is appended
   subst hm;have hnews:news=[]:=aQ (by simpa using n1);subst hnews;have hrun:(Builtin.append_ #[t,t'] ty #[.slice base xss.length cap,.slice ybase ([]:List (List PV)).length ycap]).run P g.w=.ok (.slice base xss.length cap) g.w:=by
    rcases hbase with ⟨hc0,hx⟩|⟨B,off,rfl⟩
    ·subst hx;subst hc0;have hcl:=hsrc.cells;simp only [aN] at hcl;cases base <;> simp [Builtin.append_,run_underlying k1,run_underlying ht2,Go.sizeOf,typeInfo,k2,Builtin.lenOf,hcl,storeCells]
    ·have:=run_append_room_src g.w t t' ty e i k1 k2 B off xss.length cap _ _ [] hsrc (by simpa using x1) sG sG
     simpa [World.setCells] using this
   simp only [bL,aN,cZ];rcases hb.tok with ⟨ht0,hfull⟩|⟨ht0,hv⟩
   ·have hcap:=hfull base cap rfl;obtain ⟨h2,g2⟩:=h.setTok (t:=tk) (n:=xss.length) (k:=k) (v:=.slice base xss.length cap) (fun n0 k0 e=>by rw [ht0] at e; cases e) k7
     (fun g' hw' hS' hhd=>by
      rcases hbase with ⟨q1,q2⟩|⟨B,off,rfl⟩
      ·subst q1; subst q2;refine .inl ⟨?_,rfl⟩;rw [hhd];cases base with
       | none=>exact .inl rfl
       | some ad=>exact .inr ⟨ad,rfl⟩
      ·exact .inr ⟨B,off,cap,hhd,x1,fun hlt=>by rcases hlt with q|⟨q,_⟩ <;> omega⟩)
     (fun B off c e hlt=>by cases e; rcases hlt with q|⟨q,_⟩ <;> omega) hX
    exact ⟨_,{ g with hd:=fun x=>if x=tk then .slice base xss.length cap else g.hd x,T:=upd g.T tk (some (xss.length,k)) },hrun,h2,Jcq (hb.data.mono g2.S g2.cell g2.blk) (by simp [upd]) sG⟩
   ·have hs:({ s with T:=upd s.T tk (some (xss.length,k)) }:PSt)=s:=by
     have:upd s.T tk (some (xss.length,k))=s.T:=by
      funext x
      by_cases hx:x=tk
      ·subst hx; rw [Kn,<- h.hT,ht0]
      ·rw [Ka _ _ _ _ hx]
     rw [this]
    rw [hs];exact ⟨_,g,hrun,h,Jcq hb.data ht0 hv.symm⟩
  · -- in place
   have hmpos:0<yss.length:=List.length_pos_iff.2 hm;rcases hb.tok with ⟨ht0,hfull⟩|⟨ht0,hv⟩
   ·have:=hfull base cap rfl; omega
   ·rcases hbase with ⟨hc0,_⟩|⟨B,off,rfl⟩
    ·omega
    ·have hsp:Vq g tk B:=⟨xss.length,k,off,cap,ht0,hv.symm,.of_lt oG⟩
     have hthere:g.w.there B (off+xss.length * k) ((cap - xss.length) * k):=by
      rcases h.owns tk _ _ ht0 with ⟨q,_⟩|⟨B',off',cap',q,_,hr⟩
      ·have:=(q.slice hv.symm).2; omega
      ·rw [q] at hv; cases hv;intro j hj;have hck:cap * k=xss.length * k+(cap - xss.length) * k:=by rw [<- cE]; congr 1; omega
       have:=(hr (.of_lt oG)).2.2.1 (xss.length * k+j) oG
       rwa [<- Nat.add_assoc] at this
     have hmk:yss.length * k<=(cap - xss.length) * k:=bM _ oG;have hrun:=run_append_room_src g.w t t' ty e i k1 k2 B off xss.length cap _ _ news hsrc hroom (fun j hj=>by rw [k3]; exact (hthere j oG).1) (fun j hj=>by rw [k3]; exact (hthere j oG).2);rw [k3] at hrun;obtain ⟨h2,g2⟩:=h.tokRoom ht0 hv.symm hmpos hroom n1 k7 hX;refine ⟨_,{ g with w:=g.w.setCells B (off+xss.length * k) news,S:=fun b o=>g.S b o\/(b=B/\off+xss.length * k<=o/\o<off+(xss.length+yss.length) * k),hd:=fun x=>if x=tk then .slice (some ⟨B,off,none⟩) (xss.length+yss.length) cap else g.hd x,T:=upd g.T tk (some (xss.length+yss.length,k)) },hrun,h2,Jcq ?_ (by rw [hlen]; simp [upd]) sG⟩;have hx:=o4 B off rfl;simp only [Js];rw [hlen];refine ⟨hs1,hs2,by simp,.inr ⟨B,off,cap,rfl,hroom,by simp, ?_⟩⟩;have hcellNew:∀ j u,news[j]? = some u->(g.w.setCells B (off+xss.length * k) news).cell? ⟨B,off+xss.length * k+j,none⟩=some u:=fun j u hu=>by
      have hj:j<news.length:=(aH.1 hu).1;rw [World.cell?_setCells_in B news _ g.w (fun i hi=>(hthere i oG).1) j hj,<- hu,aB hj]
     refine Be hall (vs:=olds++news) ?_ (fun j u hu=>?_) (fun j hj=>?_)
     ·rw [cY];exact (o2.monoD g2.S g2.cell g2.blk).append (n2.monoD g2.S g2.cell g2.blk)
     ·rw [aR] at hu
      by_cases hj:j<olds.length
      ·rw [if_pos hj] at hu;rw [World.cell?_setCells_out _ _ _ _ _ (fun _ _=>.inl (by show off+j<_; omega))];exact hx.2 j u hu
      ·rw [if_neg hj] at hu;have:=hcellNew _ u hu
       rwa [show off+xss.length * k+(j - olds.length)=off+j by omega] at this
     ·rw [aM] at hj
      by_cases hj2:j<xss.length * k
      ·have hcells:=(Wp _ _ _).1 hx.1.cells.1;have hfl:j<xss.flatten.length:=by rw [hx.1.cells.2]; exact hj2
       exact .inl (hcells j _ (aB hfl)).2.1
      ·refine .inr ⟨rfl,by omega, ?_⟩;rw [cE]; omega
 · -- a new block
  have hmpos:0<yss.length:=by omega
  have hneed:xss.length+yss.length<=grownCap g.w (xss.length+yss.length) cap e:=grownCap_ge _ _ _ _;have holds:(Builtin.firstCells i.size xss.length (.slice base xss.length cap)).run P g.w.drew=.ok olds.toArray g.w.drew:=by
   rcases hbase with ⟨_,q2⟩|⟨B,off,rfl⟩
   ·have:olds=[]:=aQ (by rw [o1,q2]; simp);rw [this,q2];cases base with
    | none=>exact run_firstCells_none g.w.drew _ _ _ _
    | some ad=>exact run_firstCells_some g.w.drew i.size 0 ad _ _ [] sG (fun j u hu=>by simp at hu)
   ·exact run_firstCells_some g.w.drew i.size xss.length _ _ _ olds (by rw [o1,k3]) (fun j u hu=>by rw [Addr.add_mid]; simpa using (o4 B off rfl).2 j u hu)
  have hrun:=run_append_grow_src g.w t t' ty e i z k1 k2 k5 base xss.length cap olds holds _ _ news hsrc oG oG (growslice_fits oG (by rw [k4]; omega));generalize hC:grownCap g.w (xss.length+yss.length) cap e=C at *;generalize hA:((olds++news).toArray++Builtin.zeroCells z.cells (C - (xss.length+yss.length)))=arr at *;have harr:arr.size=C * k:=by
   rw [<- hA];have h1:(olds++news).length=(xss.length+yss.length) * k:=by rw [aM,o1,n1,cE]
   have h2:C=(xss.length+yss.length)+(C - (xss.length+yss.length)):=by omega
   rw [dE,List.size_toArray,size_zeroCells,k6,h1,<- cE];congr 1;omega
  have hdrew:=h.drew;obtain ⟨h1,g1⟩:=hdrew;obtain ⟨h2,g2⟩:=h1.newRow arr e ((xss.length+yss.length) * k);obtain ⟨h3,g3⟩:=h2.setTok (t:=tk) (n:=xss.length+yss.length) (k:=k) (v:=.slice (some ⟨g.w.heap.size,0,none⟩) (xss.length+yss.length) C)
   (fun n0 k0 e=>by
    rcases hb.tok with ⟨ht0,_⟩|⟨ht0,_⟩
    ·have:g.T tk=some (n0,k0):=e;rw [ht0] at this; cases this
    ·have:g.T tk=some (n0,k0):=e;rw [ht0] at this; cases this;exact ⟨rfl,by omega⟩) k7
   (fun g' hw' hS' hhd=>.inr ⟨g.w.heap.size,0,C,hhd,hneed,fun hlt=>by
    rw [hw',hS'];refine ⟨fun _=>h.below.size,by simp,fun j hj=>?_,fun _ o ho=>?_⟩
    ·have:=Sc g.w.drew arr e j (by rw [harr]; exact hj)
     simpa using this
    ·rcases ho with ho|⟨_,ho⟩
     ·have:=h.lt _ _ ho; omega
     ·simpa using ho⟩)
   (fun B off c q hlt=>by
    cases q;refine ⟨fun t' ht'=>h.spare_lt t' (ht'.congr rfl rfl),fun l hl=>h.phi_lt l hl,fun t' ht'=>h.xb_lt t' (ht'.congr rfl)⟩) hX
  refine ⟨_,{ g with w:=g.w.drew.alloc (.cells arr e),S:=fun b o=>g.S b o\/(b=g.w.drew.heap.size/\o<(xss.length+yss.length) * k),hd:=fun x=>if x=tk then .slice (some ⟨g.w.heap.size,0,none⟩) (xss.length+yss.length) C else g.hd x,T:=upd g.T tk (some (xss.length+yss.length,k)) },hrun,h3,Jcq ?_ (by rw [hlen]; simp [upd]) sG⟩;have gle:=(g1.trans g2).trans g3;simp only [Js];rw [hlen];refine ⟨hs1,hs2,by simp,.inr ⟨g.w.heap.size,0,C,rfl,hneed,by simp, ?_⟩⟩;refine Be hall (vs:=olds++news) ?_ (fun j u hu=>?_) (fun j hj=>.inr ⟨rfl, ?_⟩)
  ·rw [cY];exact (o2.monoD gle.S gle.cell gle.blk).append (n2.monoD gle.S gle.cell gle.blk)
  ·have:=La g.w.drew arr e j u (by
    rw [<- hA];have hj:j<(olds++news).length:=(aH.1 hu).1;simp only [cI];rw [bI hj];exact hu)
   simpa using this
  ·rw [aM,o1,n1] at hj;rw [cE];omega
theorem Jm9(h:Kd Gl S0 w0 s a g)(o:Oper){t e:TypeId}{n c:Operand}{k b d:Nat}{kn kc:IntKind}{m:Int}(hop:o.op=.makeSlice t n c)(hk:Jf5 P t=some (e,k,b))(hT:s.T d=none)(hn:s.ev n=.int kn 0)(hc:s.ev c=.int kc m)(h0:0<=m)(h1:m.toNat * b<=Jx)(h2:m.toNat<=Jx) :
  Jjq P o a g.w (fun a' w'=>Inv Gl S0 w0 (({ s with T:=upd s.T d (some (0,k)) }:PSt).put o.dst (.lst (.own d) k b [])) a' w'):=by
 obtain ⟨i,z,k1,k2,k3,k4,k5,k6,k7⟩:=Ps hk;have hnv:=h.ev n;rw [hn,Uf] at hnv;have hcv:=h.ev c;rw [hc,Uf] at hcv;have hm:((m.toNat:Nat):Int)=m:=by omega
 unfold Jx at h1 h2;have hb':(i.bytes:Int) * m<=281474976710656:=by
  rw [k4,<- hm,<- Int.natCast_mul];have:=Nat.mul_comm m.toNat b;omega
 have hrun:=run_make (P:=P) g.w t e i z k1 k2 k5 kn kc 0 m (Int.le_refl _) h0 hb' oG;simp only [Int.toNat_zero] at hrun;have hsz:(madeCells z.cells (m.toNat * i.size)).size=m.toNat * k:=by rw [size_madeCells,k3]
 obtain ⟨h3,g3⟩:=h.newRow (madeCells z.cells (m.toNat * i.size)) e 0;have hTd:g.T d=none:=by rw [h.hT]; exact hT
 obtain ⟨h4,g4⟩:=h3.setTok (t:=d) (n:=0) (k:=k) (v:=.slice (some ⟨g.w.heap.size,0,none⟩) 0 m.toNat) (fun n0 k0 e=>by have:g.T d=some (n0,k0):=e; rw [hTd] at this; cases this) k7
  (fun g' hw' hS' hhd=>.inr ⟨g.w.heap.size,0,m.toNat,hhd,cT _,fun hlt=>by
   rw [hw',hS'];refine ⟨fun _=>h.below.size,by simp,fun j hj=>?_,fun _ o ho=>?_⟩
   ·have:=Sc g.w (madeCells z.cells (m.toNat * i.size)) e j (by rw [hsz]; exact hj)
    simpa using this
   ·rcases ho with ho|⟨_,ho⟩
    ·have:=h.lt _ _ ho; omega
    ·omega⟩)
  (fun B off c q hlt=>by
   cases q;exact ⟨fun t' ht'=>h.spare_lt t' (ht'.congr rfl rfl),fun l hl=>h.phi_lt l hl,fun t' ht'=>h.xb_lt t' (ht'.congr rfl)⟩) (h.noX fun n e=>by rw [hTd] at e; cases e)
 refine .inl ⟨.slice (some ⟨g.w.heap.size,0,none⟩) 0 m.toNat,_, ?_,⟨_,rfl,h4.put _ ?_⟩⟩
 ·simp [execOp,hop,hnv,hcv,hrun]
 ·simp only [Rel,Km,Kh,Js,aN];refine ⟨⟨by simp,by simp,.inl trivial,.inr ⟨g.w.heap.size,0,m.toNat,rfl,cT _,fun e=>(by cases e),trivial⟩⟩,0,Kn _ _ _,aI _,fun _=>by simp⟩
end
end PM
namespace PM
open Go Go.RowKit
def Bn : Op->Bool
 | .alloc _|.box _ _|.store _ _ _|.buildSlice _ _ _|.makeMap _ _|.mapUpdate _ _ _ _|.makeSlice _ _ _=>true
 | .call c=>match c.callee with|.builtin .append=>true|_=>false
 | _=>false
def Vd : Op->Option (Operand×List Operand)
 | .call c=>match c.callee with|.value f=>some (f,c.args.toList)|_=>none
 | _=>none
def evO(P:Program)(Gl:GL)(dst:Option Nat)(op:Op)(ρ:Operand->PV)(H:Nat->Option Qg)(T:Nat->Option (Nat×Nat))(X:XT):Option (PV×Eff) :=
 if Bn op=true then evE P dst op ρ H T X else (ev1 P Gl op ρ H X).map fun v=>(v,.none)
def Jnl : PV->List (Nat×(Nat×Nat))
 | .lst (.own t) k _ xss=>[(t,(xss.length,k))]
 | _=>[]
def Jm1 : PV->List (Nat×(Nat×Nat))
 | .agg cs=>cs.flatMap Jnl
 | p=>Jnl p
def Vj : PV->List (Nat×(Nat×Nat))
 | .tup vs=>vs.flatMap Jm1
 | p=>Jm1 p
def Jg0(d:Nat):PV->PV
 | .lst (.own t) k b xss=>.lst (.own (1000 * d+t)) k b xss
 | p=>p
def Jru(d:Nat):PV->PV
 | .agg cs=>.agg (cs.map (Jg0 d))
 | p=>Jg0 d p
def Sz(d:Nat):PV->PV
 | .tup vs=>.tup (vs.map (Jru d))
 | p=>Jru d p
def addToks(d:Nat)(s:PSt):List (Nat×(Nat×Nat))->PSt
 | []=>s
 | (t,x)::r=>addToks d { s with T:=upd s.T (1000 * d+t) (some x) } r
def Cg(d:Nat)(T:Nat->Option (Nat×Nat)):List (Nat×(Nat×Nat))->Prop
 | []=>True
 | (t,x)::r=>T (1000 * d+t)=none/\((r.all fun y=>y.1 != t)&&x.2 != 0)=true/\Cg d T r
def Jsd(P:Program)(f:FuncId):Prop:=∃ fn,P.funcs[f]? = some fn/\(fn.name == "runtime.NumGoroutine")=false/\fn.body.isNone=false
structure Et (S:Ks) (w:World) (r:PV) (v:Value) (g':GG):Prop where
 below:Nq w.heap.size w g'.w
 sub:∀ B o,S B o->g'.S B o
 new:∀ B o,g'.S B o->S B o\/(w.heap.size<=B/\B<g'.w.heap.size)
 H:∀ l,g'.H l=none
 T:∀ t n k,g'.T t=some (n,k)↔(t,(n,k))∈Vj r
 rel:Rel g' r v
 owns:∀ t n k,g'.T t=some (n,k)->Jih g' w.heap.size t n k
 ownsEx:∀ t t' B,Vq g' t B->Vq g' t' B->t=t'
def Yr(P:Program)(Gl:GL)(f:FuncId)(args:List PV)(r:PV):Prop :=
 Jsd P f/\∀ (S:Ks) (w:World) (vs:Array Value),(∀ B o,S B o->B<w.heap.size)->(∀ i cs,Gl i=some cs->Fi S w cs i)->Ke (Js S w) args vs.toList ->
  Calls P f vs w fun e w'=>∃ v g',e=.returned v/\g'.w=w'/\Et S w r v g'
section
variable {P:Program} {Gl:GL} {S0:Bs} {w0:World} {s:PSt} {a:Act} {g:GG} {w:World}
theorem Kbg(h:Kd Gl S0 w0 s a g)(o:Oper){x:PV×Eff}(he:evE P o.dst o.op s.ev s.H s.T s.X=some x):Jjq P o a g.w (fun a' w'=>Inv Gl S0 w0 ((x.2.app s).put o.dst x.1) a' w'):=by
 unfold evE at he;split at he
 ·rename_i t hop;split at he
  ·rename_i d z hd hzk;split at he
   ·rename_i hc;cases he;obtain ⟨hc1,hc2⟩:=hc;simp only [aF,decide_eq_true_eq] at hc1;exact Jvh h o hop hzk (by simpa using hc1.1) hc1.2 hc2
   ·cases he
  ·cases he
 ·rename_i t x hop;split at he
  ·rename_i d hd;split at he
   ·rename_i hc;cases he;obtain ⟨hc1,hc2⟩:=hc;simp only [aF,decide_eq_true_eq] at hc1;exact Jz1 h o hop (by simpa using hc1.1) hc1.2 hc2
   ·cases he
  ·cases he
 ·rename_i t x y hop;split at he
  ·rename_i l off hx;split at he
   ·rename_i cs r n hl ht;split at he
    ·rename_i hc;cases he;exact Jvq h o hop hx hl ht hc.1 hc.2.1 hc.2.2
    ·cases he
   ·cases he
  ·rename_i tk k N j off hx;split at he
   ·rename_i k' b xss r n ds hX ht hd;split at he
    ·rename_i hc;obtain ⟨c0,rfl,c3,c4⟩:=hc;have c1:Ny (s.ev _)=true:=(Bool.and_eq_true_iff.1 c0).1;obtain ⟨cs,hcs,hl⟩:=aT.1 he;split at hl
     ·rename_i ho;cases hl;exact Jt0 h o hop hx hX c3 ht c1 hd c4 hcs ho
     ·cases hl
    ·cases he
   ·cases he
  ·cases he
 ·rename_i t n parts hop;split at he
  ·rename_i e k b xss hk hx;split at he
   ·rename_i hc;cases he;rw [hk] at hx;exact Jkr h o hop hk hx hc.1 hc.2.1 hc.2.2
   ·cases he
  ·cases he
 ·rename_i t r hop;split at he
  ·rename_i d hd;split at he
   ·rename_i hc;cases he;simp only [aF,decide_eq_true_eq] at hc;exact Jqg h o hop (by simpa using hc.1) hc.2
   ·cases he
  ·cases he
 ·rename_i t n c hop;split at he
  ·rename_i e k b d kn n0 kc m hk hd hn hc;split at he
   ·rename_i h1;obtain ⟨rfl,hT⟩:=h1;split at he
    ·rename_i h2;cases he;exact Jm9 h o hop hk hT hn hc h2.1 h2.2.1 h2.2.2
    ·cases he
   ·cases he
  ·cases he
 ·rename_i t m k x hop;split at he
  ·rename_i l hl;split at he
   ·rename_i es d z dv h1 h2 h3;split at he
    ·rename_i hc;obtain ⟨es',hp,rfl⟩:=aC.1 he;exact Jmg h o hop hl h1 h2 h3 hc.1 hc.2 hp
    ·cases he
   ·rename_i es k' b tk d z dv h1 h2 h3;exact Jxr h o hop hl h1 h2 he
   ·cases he
  ·cases he
 ·rename_i c hop;split at he
  ·rename_i x y t t' h1 h2 h3;have hxr:=h.ev x;have hyr:=h.ev y;unfold Se at he;split at he
   ·rename_i e k b d hk ht' hd;split at he
    ·rename_i yss hys;have hy:∃ b',Js g.S g.w (.lst .frozen k b' yss) (a.eval y):=by
      unfold Jzn at hys;split at hys
      ·rename_i hyn;cases hys;rw [hyn] at hyr;exact ⟨0,Js.ofNil k 0 (.inl rfl) hyr⟩
      ·rename_i oy k' b' yss' hyl;split at hys
       ·rename_i hkk;cases hys;rw [hyl] at hyr;rw [<- hkk];exact ⟨b',Jjd hyr⟩
       ·cases hys
      ·cases hys
     obtain ⟨b',hy⟩:=hy;have fin:∀ (tk:Nat) (xss:List (List PV)),Base g tk k b xss (a.eval x)->(xss.length+yss.length) * b<=Jx->xss.length+yss.length<=Jx ->
       Jjq P o a g.w (fun a' w'=>Inv Gl S0 w0 (((Eff.tok tk (xss.length+yss.length) k).app s).put o.dst (.lst (.own tk) k b (xss++yss))) a' w'):=by
      intro tk xss hb q1 q2;obtain ⟨v',g',r1,r2,r3⟩:=Jt4 (P:=P) (ty:=o.type) h hk ht' hb hy q1 q2;refine .inl ⟨v',g'.w, ?_,⟨g',rfl,r2.put _ r3⟩⟩;simp [execOp,hop,resolve,h1,Px h2,Px h3,invoke,builtin,r1]
     split at he
     ·rename_i hxn;rw [hxn] at hxr;split at he
      ·rename_i hT;split at he
       ·rename_i hc;cases he;have hv:a.eval x=.slice none 0 0:=by simpa [Rel,Km,Kh,Js] using hxr
        have:=fin d [] ⟨Js.ofNil k b (.inl rfl) (by rw [hv]; simp [Js]),.inl ⟨by rw [h.hT]; exact hT,fun base cap e=>(by rw [hv] at e; cases e; rfl)⟩⟩ (by simpa using hc.1) (by simpa using hc.2)
        simpa using this
       ·cases he
      ·cases he
     ·rename_i k' b' xss hxl;rw [hxl] at hxr;split at he
      ·rename_i hT;obtain ⟨rfl,rfl,hT⟩:=hT;split at he
       ·rename_i hc;cases he;refine fin d xss ⟨Jjd hxr,.inl ⟨by rw [h.hT]; exact hT,fun base cap e=>?_⟩⟩ hc.1 hc.2;have hxr':Js g.S g.w (.lst .full k' b' xss) (a.eval x):=hxr;simp only [Js] at hxr';obtain ⟨_,_,_,⟨q,q2⟩|⟨_,_,_,q,_,hf,_⟩⟩:=hxr'
        ·rw [(q.slice e).2,q2]; rfl
        ·rw [q] at e; injection e with e1 e2 e3; rw [<- e3]; exact hf trivial
       ·cases he
      ·cases he
     ·rename_i tk k' b' xss hxl;rw [hxl] at hxr;split at he
      ·rename_i hT;obtain ⟨rfl,rfl,hT⟩:=hT;split at he
       ·rename_i hc;cases he;have hxr':Kh g (.lst (.own tk) k' b' xss) (a.eval x):=hxr;simp only [Kh] at hxr';obtain ⟨q1,n,q2,q3,q4⟩:=hxr';have hT':g.T tk=some (xss.length,k'):=by rw [h.hT]; exact hT
        rw [hT'] at q2; cases q2;exact fin tk xss ⟨q1,.inr ⟨hT',q4 rfl⟩⟩ hc.1 hc.2
       ·cases he
      ·cases he
     ·cases he
    ·cases he
   ·cases he
  ·cases he
 ·cases he
theorem Jol{d:Nat}{T:Nat->Option (Nat×Nat)}:∀ {l:List (Nat×(Nat×Nat))},Cg d T l->∀ x∈l,T (1000 * d+x.1)=none
 | [],_,x,hx=>by cases hx
 | (t,y)::r,h,x,hx=>by
  rcases bG.1 hx with rfl|hx
  ·exact h.1
  ·exact Jol h.2.2 x hx
theorem Jm5{d:Nat}{T:Nat->Option (Nat×Nat)}:∀ {l:List (Nat×(Nat×Nat))},Cg d T l->∀ x∈l,x.2.2≠0
 | [],_,x,hx=>by cases hx
 | (t,y)::r,h,x,hx=>by
  rcases bG.1 hx with rfl|hx
  ·have:=h.2.1;simp only [aF] at this
   simpa using this.2
  ·exact Jm5 h.2.2 x hx
theorem Kd.addToks{d:Nat}{g':GG}{base:Nat}(hb:w0.heap.size<=base)(hown:∀ t n k,g'.T t=some (n,k)->Jih g' base t n k)(hex:∀ t t' B,Vq g' t B->Vq g' t' B->t=t')
  : ∀ (l:List (Nat×(Nat×Nat))) (s:PSt) (g:GG),Kd Gl S0 w0 s a g->g.w=g'.w->g.S=g'.S->(∀ x∈l,g'.T x.1=some x.2)->Cg d s.T l ->
   (∀ t B,Vq g t B->B<base\/∃ t0,t=1000 * d+t0/\Vq g' t0 B/\∀ x∈l,x.1≠t0)->(∀ l',(g.H l').isSome=true->g.φ l'<base)->(∀ t B,XB s.X g t B->B<base) ->
   ∃ g2,Kd Gl S0 w0 (PM.addToks d s l) a g2/\GLe g g2/\g2.w=g.w/\g2.S=g.S/\(∀ x∈l,g2.T (1000 * d+x.1)=some x.2/\g2.hd (1000 * d+x.1)=g'.hd x.1)/\(∀ t,(∀ x∈l,t≠1000 * d+x.1)->g2.T t=g.T t/\g2.hd t=g.hd t)
 | [],s,g,h,_,_,_,_,_,_,_=>⟨g,h,GLe.refl g,rfl,rfl,by simp,by simp⟩
 | (t,(n,k))::r,s,g,h,hw,hS,hT,hf,hsp,hφ,hxb=>by
  obtain ⟨f1,f2',f3⟩:=hf;simp only [aF] at f2';obtain ⟨f2,fk⟩:=f2';have hk0:k≠0:=by simpa using fk
  have hX:s.X (1000 * d+t)=none:=h.noX fun n e=>by rw [h.hT,f1] at e; cases e
  have hgT:g'.T t=some (n,k):=hT (t,(n,k)) sG;have hok:=hown t n k hgT;have hne:∀ x∈r,x.1≠t:=fun x hx=>by
   have:=aG.1 f2 x hx
   simpa using this
  obtain ⟨h2,g2⟩:=h.setTok (t:=1000 * d+t) (n:=n) (k:=k) (v:=g'.hd t) (fun n0 k0 e=>by rw [h.hT,f1] at e; cases e) hk0
   (fun gg e1 e2 e3=>by
    rcases hok with ⟨q1,q2⟩|⟨B,off,cap,q1,q2,q3⟩
    ·exact .inl ⟨by rw [e3]; exact q1,q2⟩
    ·refine .inr ⟨B,off,cap,by rw [e3]; exact q1,q2,fun hlt=>?_⟩;obtain ⟨r1,r2,r3,r4⟩:=q3 hlt;rw [e1,e2,hw,hS];exact ⟨fun q=>by have:=r1 q; omega,r2,r3,r4⟩)
   (fun B off cap e hlt=>by
    have hspt:Vq g' t B:=⟨n,k,off,cap,hgT,e,hlt⟩
    have hBb:base<=B:=by
     rcases hok with ⟨q1,_⟩|⟨B',off',cap',q1,_,q3⟩
     ·have:=(q1.slice e).2; have:=hlt.pos; omega
     ·rw [q1] at e; cases e; exact (q3 hlt).1 hk0
    refine ⟨fun t' ht'=>?_,fun l hl hBB=>?_,fun t' ht'=>by have:=hxb t' B ht'; omega⟩
    ·rcases hsp t' B ht' with q|⟨t0,_,q2,q3⟩
     ·omega
     ·exact q3 (t,(n,k)) sG (hex t t0 B hspt q2)
    ·have:=hφ l hl; omega) hX
  have hfree:Cg d ({ s with T:=upd s.T (1000 * d+t) (some (n,k)) }:PSt).T r:=by
   have aux:∀ l:List (Nat×(Nat×Nat)),(∀ x∈l,x.1≠t)->Cg d s.T l->Cg d (upd s.T (1000 * d+t) (some (n,k))) l:=by
    intro l;induction l with
    | nil=>intro _ _; trivial
    | cons x l ih=>
     intro q1 q2;obtain ⟨tx,y⟩:=x;have:tx≠t:=q1 (tx,y) sG;exact ⟨by rw [Ka _ _ _ _ oG]; exact q2.1,q2.2.1,ih (fun x hx=>q1 x (by simp [hx])) q2.2.2⟩
   exact aux r hne f3
  obtain ⟨g3,k1,k2,k3,k4,k5,k6⟩:=Kd.addToks hb hown hex r _ _ h2 hw hS (fun x hx=>hT x (by simp [hx])) hfree
   (fun t' B hs'=>by
    obtain ⟨n',k',off',cap',e1,e2,e3⟩:=hs'
    by_cases ht':t'=1000 * d+t
    ·subst ht';have e1':upd g.T (1000 * d+t) (some (n,k)) (1000 * d+t)=some (n',k'):=e1;rw [Kn] at e1';cases e1';simp only [if_true] at e2;exact .inr ⟨t,rfl,⟨n,k,off',cap',hgT,e2,e3⟩,hne⟩
    ·have e1':upd g.T (1000 * d+t) (some (n,k)) t'=some (n',k'):=e1;rw [Ka _ _ _ _ ht'] at e1';simp only [if_neg ht'] at e2;rcases hsp t' B ⟨n',k',off',cap',e1',e2,e3⟩ with q|⟨t0,q1,q2,q3⟩
     ·exact .inl q
     ·exact .inr ⟨t0,q1,q2,fun x hx=>q3 x (by simp [hx])⟩) (fun l' hl'=>hφ l' hl') (fun t' B hx=>hxb t' B (by
    obtain ⟨x1,off',n',cap',x2⟩:=hx;have hne':t'≠1000 * d+t:=fun e=>by rw [e] at x1; rw [hX] at x1; cases x1
    simp only [if_neg hne'] at x2;exact ⟨x1,off',n',cap',x2⟩))
  refine ⟨g3,k1,g2.trans k2,k3,k4,fun x hx=>?_,fun t' ht'=>?_⟩
  ·rcases bG.1 hx with rfl|hx
   ·have:=k6 (1000 * d+t) (fun x hx=>by have:=hne x hx; omega);rw [this.1,this.2];exact ⟨Kn _ _ _,by simp⟩
   ·exact k5 x hx
  ·have h0:=ht' (t,(n,k)) sG;have:=k6 t' (fun x hx=>ht' x (by simp [hx]));rw [this.1,this.2];exact ⟨Ka _ _ _ _ h0,by simp [show t'≠1000 * d+t from h0]⟩
end
def bd1(ts:List Nat)(s:PSt):PV->Option (PV×List (Nat×Nat))
 | .ex t k b N o n=>match ts.contains t with
  | true=>match s.X t,s.T t with
   | some (k',b',xss),some (N',0)=>if k'=k/\b'=b then some (.lst .frozen k b xss,[(n,N'),(N,N'),(o,0)]) else none
   | _,_=>none
  | false=>none
 | p=>(Bw p).map fun q=>(q,[])
def bdL(ts:List Nat)(s:PSt):List PV->Option (List PV×List (Nat×Nat))
 | []=>some ([],[])
 | p::ps=>match bd1 ts s p,bdL ts s ps with
  | some a,some b=>some (a.1::b.1,a.2++b.2)
  | _,_=>none
def bdA(ts:List Nat)(s:PSt):PV->Option (PV×List (Nat×Nat))
 | .agg cs=>(bdL ts s cs).map fun x=>(.agg x.1,x.2)
 | p=>bd1 ts s p
def Jcm(ts:List Nat)(s:PSt):List PV->Option (List PV×List (Nat×Nat))
 | []=>some ([],[])
 | p::ps=>match bdA ts s p,Jcm ts s ps with
  | some a,some b=>some (a.1::b.1,a.2++b.2)
  | _,_=>none
section
variable {P:Program} {Gl:GL} {S0:Bs} {w0:World} {s:PSt} {a:Act} {g:GG}
theorem Kd.borrow(h:Kd Gl S0 w0 s a g)(ts:List Nat):∃ S1:Ks,(∀ B o,g.S B o->S1 B o)/\(∀ B o,S1 B o->B<g.w.heap.size)/\(∀ i cs,Gl i=some cs->Fi S1 g.w cs i) /\
  ∀ t,t∈ts->∀ k b xss,s.X t=some (k,b,xss)->∀ v,Tr (g.hd t) xss.length k 0 xss.length v->Js S1 g.w (.lst .frozen k b xss) v:=by
 refine ⟨fun B o=>g.S B o\/∃ t k b xss n cap,t∈ts/\s.X t=some (k,b,xss)/\g.hd t=.slice (some ⟨B,0,none⟩) n cap/\0<cap/\o<xss.length * k,fun _ _ e=>.inl e, ?_,fun i cs e=>(h.glob i cs e).mono (fun _ _ q=>.inl q) (fun _ _ _=>rfl) (fun _ _=>rfl),fun t ht k b xss hx v hv=>?_⟩
 ·rintro B o (e|⟨t,k,b,xss,n,cap,_,hx,hh,hc,_⟩)
  ·exact h.lt B o e
  ·exact ((h.exs t k b xss hx).lt hh hc).1
 ·obtain ⟨q1,q2,q3,q4,q5,q6⟩:=h.exs t k b xss hx;simp only [Js];refine ⟨q4,q5,.inl trivial, ?_⟩;rcases hv with ⟨e1,e2,_,_⟩|⟨B,cap,off,e1,e2,e3,e4,e5,e6⟩
  ·have hnil:xss=[]:=aQ e2;rcases q6 with ⟨e,_⟩|⟨B,cap,e,hc,_⟩
   ·exact .inl ⟨by rw [e1]; exact e,hnil⟩
   ·exact .inr ⟨B,0,cap,by rw [e1,e],by rw [hnil]; exact cT _,fun q=>(by cases q),by rw [hnil]; simp [Wy]⟩
  ·have hoff:off=0:=by
    rcases e6 with e6|e6 <;> omega
   subst hoff;rcases q6 with ⟨f,_⟩|⟨B',cap',f,hc,f1,f2,f3,f4,⟨vs,v1,v2⟩,_⟩
   ·have:=(f.slice e1).2; omega
   ·rw [f] at e1;simp only [Value.slice.injEq,aO,Addr.mk.injEq,and_true,true_and] at e1;obtain ⟨rfl,rfl⟩:=e1;refine .inr ⟨B',0,cap' - 0,e5,by omega,fun q=>(by cases q), ?_⟩;refine Be q3 (vs:=vs) (v1.mono fun _ _ q=>⟨q.1.mono (fun _ _ q=>.inl q) (fun _ _ _=>rfl) (fun _ _=>rfl),q.2⟩) v2 (fun j hj=>.inr ⟨t,k,b,xss,_,cap',ht,hx,f,hc, ?_⟩);have hfl:xss.flatten.length=xss.length * k:=by
     rw [List.length_flatten];have:xss.map List.length=List.replicate xss.length k:=by
      rw [List.eq_replicate_iff];exact ⟨by simp,fun b hb=>by obtain ⟨x,hx,rfl⟩:=bT.1 hb; exact q3 x hx⟩
     rw [this]; simp
    have:=v1.1;rw [hfl] at this;omega
theorem Jqq{l l':List (Nat×Nat)}(h:(l++l').map (·.1)=(l++l').map (·.2)):l.map (·.1)=l.map (·.2)/\l'.map (·.1)=l'.map (·.2):=by
 rw [cW,cW] at h;exact List.append_inj h sG
theorem Jsf(h:Kd Gl S0 w0 s a g){ts:List Nat}{S1:Ks}(hS:∀ B o,g.S B o->S1 B o)(hb:∀ t,t∈ts->∀ k b xss,s.X t=some (k,b,xss)->∀ v,Tr (g.hd t) xss.length k 0 xss.length v->Js S1 g.w (.lst .frozen k b xss) v){p:PV}{q:PV×List (Nat×Nat)}{v:Value}(hr:Kh g p v)(hd:bd1 ts s p=some q)(he:q.2.map (·.1)=q.2.map (·.2)):Js S1 g.w q.1 v/\q.1.one=true:=by
 have old:∀ {x:PV},bd1 ts s p=(Bw p).map (fun q=>(q,[]))->Js S1 g.w q.1 v/\q.1.one=true:=fun e=>by
  rw [e] at hd;obtain ⟨q0,h1,rfl⟩:=aC.1 hd;obtain ⟨h2,h3⟩:=Rx hr h1;exact ⟨h2.mono hS (fun _ _ _=>rfl) (fun _ _=>rfl),h3⟩
 cases p
 case ex t k b N o n=>
  simp only [bd1] at hd;split at hd
  ·rename_i ht;split at hd
   ·rename_i k' b' xss N' e1 e2;split at hd
    ·rename_i hkb;cases hd;obtain ⟨rfl,rfl⟩:=hkb;simp only [bJ,List.map_nil,dS,and_true] at he;obtain ⟨rfl,rfl,rfl⟩:=he;have hN:=(h.exs t _ _ _ e1).1;rw [h.hT,e2] at hN;simp only [aO,aK] at hN;obtain ⟨rfl,_⟩:=hN;simp only [Kh] at hr;obtain ⟨_,N2,f1,_,f3⟩:=hr;rw [h.hT,e2] at f1; cases f1;exact ⟨hb t (by simpa using ht) _ _ _ e1 v (f3 rfl),rfl⟩
    ·cases hd
   ·cases hd
  ·cases hd
 all_goals exact old (x:=.any) rfl
theorem Jnx(h:Kd Gl S0 w0 s a g){ts:List Nat}{S1:Ks}(hS:∀ B o,g.S B o->S1 B o)(hb:∀ t,t∈ts->∀ k b xss,s.X t=some (k,b,xss)->∀ v,Tr (g.hd t) xss.length k 0 xss.length v->Js S1 g.w (.lst .frozen k b xss) v) :
  ∀ {cs:List PV} {q:List PV×List (Nat×Nat)} {vs:List Value},Ke (Ya g) cs vs->bdL ts s cs=some q->q.2.map (·.1)=q.2.map (·.2)->Ke (Js S1 g.w) q.1 vs
 | [],q,vs,hr,hd,_=>by
  simp only [bdL] at hd; cases hd;rw [hr.nil_left]; exact .nil
 | c::cs,q,vs,hr,hd,he=>by
  simp only [bdL] at hd;split at hd
  ·rename_i x y e1 e2;cases hd;obtain ⟨v,vs',rfl,h1,h2⟩:=hr.cons_left;obtain ⟨he1,he2⟩:=Jqq he;exact .cons (Jsf h hS hb h1.1 e1 he1).1 (Jnx h hS hb h2 e2 he2)
  ·cases hd
theorem Jth(h:Kd Gl S0 w0 s a g){ts:List Nat}{S1:Ks}(hS:∀ B o,g.S B o->S1 B o)(hb:∀ t,t∈ts->∀ k b xss,s.X t=some (k,b,xss)->∀ v,Tr (g.hd t) xss.length k 0 xss.length v->Js S1 g.w (.lst .frozen k b xss) v){p:PV}{q:PV×List (Nat×Nat)}{v:Value}(hr:Km g p v)(hd:bdA ts s p=some q)(he:q.2.map (·.1)=q.2.map (·.2)):Js S1 g.w q.1 v:=by
 cases p
 case agg cs=>
  simp only [bdA] at hd;obtain ⟨x,h1,rfl⟩:=aC.1 hd;simp only [Km] at hr;obtain ⟨arr,e,h2⟩:=hr;simp only [Js];exact ⟨arr,e,(Vr _ _).2 (Jnx h hS hb h2 h1 he)⟩
 all_goals
  simp only [Km] at hr;exact (Jsf h hS hb hr hd he).1
theorem Ji6(h:Kd Gl S0 w0 s a g){ts:List Nat}{S1:Ks}(hS:∀ B o,g.S B o->S1 B o)(hb:∀ t,t∈ts->∀ k b xss,s.X t=some (k,b,xss)->∀ v,Tr (g.hd t) xss.length k 0 xss.length v->Js S1 g.w (.lst .frozen k b xss) v) :
  ∀ {ps:List PV} {q:List PV×List (Nat×Nat)} {vs:List Value},Ke (Rel g) ps vs->Jcm ts s ps=some q->q.2.map (·.1)=q.2.map (·.2)->Ke (Js S1 g.w) q.1 vs
 | [],q,vs,hr,hd,_=>by
  simp only [Jcm] at hd; cases hd;rw [hr.nil_left]; exact .nil
 | c::cs,q,vs,hr,hd,he=>by
  simp only [Jcm] at hd;split at hd
  ·rename_i x y e1 e2;cases hd;obtain ⟨v,vs',rfl,h1,h2⟩:=hr.cons_left;obtain ⟨he1,he2⟩:=Jqq he;refine .cons (Jth h hS hb ?_ e1 he1) (Ji6 h hS hb h2 e2 he2);cases c
   case tup cs=>simp [bdA,bd1,Bw] at e1
   all_goals exact h1
  ·cases hd
def Jhp : PV->Bool
 | .int _ _|.bool _|.str _=>true
 | _=>false
def Jta : PV->Bool
 | .agg cs=>cs.all Jhp
 | p=>Jhp p
def Jxz : PV->Bool
 | .tup vs=>vs.all Jta
 | p=>Jta p
theorem Jfu{g g':GG}{p:PV}{v:Value}(hs:Jhp p=true)(h:Kh g p v):Kh g' p v:=by
 cases p <;> simp only [Jhp,aP] at hs <;> (simp only [Kh,Js] at h ⊢; exact h)
theorem Jcb{g g':GG}{p:PV}{v:Value}(hs:Jta p=true)(h:Km g p v):Km g' p v:=by
 cases p
 case agg cs=>
  simp only [Km] at h ⊢;obtain ⟨arr,e,h2⟩:=h;exact ⟨arr,e,h2.1,fun i p v hp hv=>⟨Jfu (aG.1 hs p (aD hp)) (h2.2 i p v hp hv).1,(h2.2 i p v hp hv).2⟩⟩
 case int k n=>exact Jfu (g:=g) (g':=g') (p:=.int k n) hs h
 case bool b=>exact Jfu (g:=g) (g':=g') (p:=.bool b) hs h
 case str b=>exact Jfu (g:=g) (g':=g') (p:=.str b) hs h
 all_goals (simp [Jta,Jhp] at hs)
theorem Jnp{g g':GG}{p:PV}{v:Value}(hs:Jxz p=true)(h:Rel g p v):Rel g' p v:=by
 cases p
 case tup cs=>
  simp only [Rel] at h ⊢;obtain ⟨arr,e,h2⟩:=h;exact ⟨arr,e,h2.1,fun i p v hp hv=>Jcb (aG.1 hs p (aD hp)) (h2.2 i p v hp hv)⟩
 case agg cs=>exact Jcb (g:=g) (g':=g') (p:=.agg cs) hs h
 case int k n=>exact Jcb (g:=g) (g':=g') (p:=.int k n) hs h
 case bool b=>exact Jcb (g:=g) (g':=g') (p:=.bool b) hs h
 case str b=>exact Jcb (g:=g) (g':=g') (p:=.str b) hs h
 all_goals (simp [Jxz,Jta,Jhp] at hs)
end
end PM
namespace PM
open Go Go.RowKit
section
variable {P:Program} {Gl:GL} {S0:Bs} {w0:World} {s:PSt} {a:Act} {g:GG} {w:World}
theorem Xz.noH{g':GG}(hH:∀ l,g'.H l=none){p:PV}{v:Value}(h:Xz g' p v):Js g'.S g'.w p v:=by
 cases p <;> simp only [Xz] at h
 case ref l off=>rw [hH l] at h; simp at h
 all_goals exact h
theorem Jlw{g' g2:GG}{d:Nat}{r:PV}{v:Value}(hw:g2.w=g'.w)(hS:g2.S=g'.S)(hH:∀ l,g'.H l=none)(hk0:∀ t n,g'.T t≠some (n,0))(hT:∀ t n k,(t,(n,k))∈Jnl r->g2.T (1000 * d+t)=some (n,k)/\g2.hd (1000 * d+t)=g'.hd t)(hfun:∀ t n k n' k',g'.T t=some (n',k')->(t,(n,k))∈Jnl r->(n,k)=(n',k'))(h:Kh g' r v):Kh g2 (Jg0 d r) v:=by
 cases r
 case lst o k b xss=>
  cases o
  case own t=>
   simp only [Kh] at h;obtain ⟨h1,n,h2,h3,h4⟩:=h;obtain ⟨e1,e2⟩:=hT t xss.length k (by simp [Jnl]);have e3:=hfun t xss.length k n k h2 (by simp [Jnl]);have e4:xss.length=n:=(bE e3).1;simp only [Jg0,Kh];exact ⟨by rw [hS,hw]; exact h1,xss.length,e1,aI _,fun _=>by rw [e2]; exact h4 e4⟩
  all_goals (simp only [Jg0]; simp only [Kh] at h ⊢; rw [hS,hw]; exact h)
 case ifc=>exact h
 case ref l off=>simp only [Kh] at h; rw [hH l] at h; simp at h
 case mp l=>simp only [Kh] at h; rw [hH l] at h; simp at h
 case sl l _ len k b=>simp only [Kh] at h; obtain ⟨_,cs,h2,_⟩:=h; rw [hH l] at h2; cases h2
 case ex=>obtain ⟨_,_,h2,_⟩:=h; exact absurd h2 (hk0 _ _)
 case eref=>obtain ⟨_,_,h2,_⟩:=h; exact absurd h2 (hk0 _ _)
 case ub=>exact h
 case fn f caps=>
  simp only [Jg0,Kh] at h ⊢;obtain ⟨arr,h1,h2⟩:=h;refine ⟨arr,h1,h2.mono fun x y hxy=>?_⟩;have:=hxy.noH hH;cases x <;> simp only [Xz] <;> first|(rw [hS,hw]; exact this)|(simp only [Js] at this)
 all_goals (simp only [Jg0]; simp only [Kh] at h ⊢; try (rw [hS,hw]; exact h))
theorem Jl5{g' g2:GG}{d:Nat}{r:PV}{v:Value}(hw:g2.w=g'.w)(hS:g2.S=g'.S)(hH:∀ l,g'.H l=none)(hk0:∀ t n,g'.T t≠some (n,0))(hT:∀ t n k,(t,(n,k))∈Jm1 r->g2.T (1000 * d+t)=some (n,k)/\g2.hd (1000 * d+t)=g'.hd t)(hfun:∀ t n k n' k',g'.T t=some (n',k')->(t,(n,k))∈Jm1 r->(n,k)=(n',k'))(h:Km g' r v):Km g2 (Jru d r) v:=by
 cases r
 case agg cs=>
  simp only [Km,Jru] at h ⊢;obtain ⟨arr,h1,h2⟩:=h;refine ⟨arr,h1,by simp [h2.1],fun i x y hx hy=>?_⟩;rw [aL] at hx;cases hc:cs[i]? with
  | none=>rw [hc] at hx; cases hx
  | some c=>
   rw [hc] at hx; cases hx;have hmem:c∈cs:=aD hc;have:=h2.2 i c y hc hy;have sub:∀ z,z∈Jnl c->z∈Jm1 (.agg cs):=fun z hz=>dO.2 ⟨c,hmem,hz⟩;exact ⟨Jlw hw hS hH hk0 (fun t n k hm=>hT t n k (sub _ hm)) (fun t n k n' k' e hm=>hfun t n k n' k' e (sub _ hm)) this.1,this.2⟩
 all_goals
  (simp only [Km] at h
   simp only [Jm1] at hT hfun;exact (Jlw hw hS hH hk0 hT hfun h).relA')
theorem Jx3{g' g2:GG}{d:Nat}{r:PV}{v:Value}(hw:g2.w=g'.w)(hS:g2.S=g'.S)(hH:∀ l,g'.H l=none)(hk0:∀ t n,g'.T t≠some (n,0))(hT:∀ t n k,(t,(n,k))∈Vj r->g2.T (1000 * d+t)=some (n,k)/\g2.hd (1000 * d+t)=g'.hd t)(hfun:∀ t n k n' k',g'.T t=some (n',k')->(t,(n,k))∈Vj r->(n,k)=(n',k'))(h:Rel g' r v):Rel g2 (Sz d r) v:=by
 cases r
 case tup cs=>
  simp only [Rel,Sz] at h ⊢;obtain ⟨arr,h1,h2⟩:=h;refine ⟨arr,h1,by simp [h2.1],fun i x y hx hy=>?_⟩;rw [aL] at hx;cases hc:cs[i]? with
  | none=>rw [hc] at hx; cases hx
  | some c=>
   rw [hc] at hx; cases hx;have hmem:c∈cs:=aD hc;have sub:∀ z,z∈Jm1 c->z∈Vj (.tup cs):=fun z hz=>dO.2 ⟨c,hmem,hz⟩;exact Jl5 hw hS hH hk0 (fun t n k hm=>hT t n k (sub _ hm)) (fun t n k n' k' e hm=>hfun t n k n' k' e (sub _ hm)) (h2.2 i c y hc hy)
 all_goals
  (simp only [Rel] at h
   simp only [Vj] at hT hfun;exact (Jl5 hw hS hH hk0 hT hfun h).rel)
theorem Kd.after(h:Kd Gl S0 w0 s a g){r:PV}{v:Value}{g':GG}(ha:Et g.S g.w r v g')(d:Nat)(hf:Cg d s.T (Vj r)) :
  ∃ g2,Kd Gl S0 w0 (PM.addToks d s (Vj r)) a g2/\g2.w=g'.w/\Rel g2 (Sz d r) v:=by
 obtain ⟨h1,g1⟩:=h.grow ha.below ha.sub ha.new;obtain ⟨g2,k1,k2,k3,k4,k5,k6⟩:=Kd.addToks (d:=d) (g':=g') (base:=g.w.heap.size) h.below.size ha.owns ha.ownsEx (Vj r) s _ h1 rfl rfl (fun x hx=>(ha.T x.1 x.2.1 x.2.2).2 hx) hf
  (fun t B hs=>.inl ((hs.congr (g:=g) rfl rfl).lt h)) (fun l' hl'=>by
   obtain ⟨ob,hob⟩:=aJ.1 hl';exact (h.objs l' ob hob).2.1) (fun t B hx=>((hx.congr (g:=g) rfl).lt h).1)
 refine ⟨g2,k1,k3,Jx3 (g':=g') k3 k4 ha.H (fun t n e=>Jm5 hf _ ((ha.T _ _ _).1 e) rfl) (fun t n k hm=>k5 (t,(n,k)) hm) (fun t n k n' k' e hm=>?_) ha.rel⟩;have:=(ha.T t n k).2 hm;rw [e] at this;cases this; rfl
def Jzw(P:Program)(Gl:GL)(draw:Bool)(dst:Option Nat)(x:PV)(args:List PV)(s:PSt)(K:PSt->Prop):Prop :=
 ∃ f caps as r,x=.fn f caps/\caps.all Db=true/\Ni (args++caps)=some as/\Yr P Gl f as r/\Cg (dst.getD 0) s.T (Vj r)/\(draw=true->Vj r=[])/\K ((addToks (dst.getD 0) s (Vj r)).put dst (Sz (dst.getD 0) r))
def Kf2(P:Program)(Gl:GL)(dst:Option Nat)(x:PV)(args:List PV)(s:PSt)(K:PSt->Prop):Prop :=
 ∃ f caps as r ts eqs,x=.fn f caps/\caps.all Db=true/\Jcm ts s (args++caps)=some (as,eqs)/\eqs.map (·.1)=eqs.map (·.2)/\(ts.all Tb)=true/\Yr P Gl f as r/\Jxz r=true/\K (s.put dst r)
def ok{α:Type}(o:Option α)(K:α->Prop):Prop:=∃ x,o=some x/\K x
def Ru(P:Program)(Gl:GL)(draw:Bool)(o:Oper)(s:PSt)(K:PSt->Prop):Prop :=
 match Vd o.op with
 | some (x,args)=>Jzw P Gl draw o.dst (s.ev x) (args.map s.ev) s K\/Kf2 P Gl o.dst (s.ev x) (args.map s.ev) s K
 | none=>ok (evO P Gl o.dst o.op s.ev s.H s.T s.X) fun x=>K ((x.2.app s).put o.dst x.1)
theorem Ym{op:Op}{x:Operand}{args:List Operand}(h:Vd op=some (x,args)):∃ c,op=.call c/\c.callee=.value x/\c.args.toList=args:=by
 unfold Vd at h;split at h
 ·rename_i c;split at h
  ·rename_i f hf;cases h;exact ⟨c,rfl,hf,rfl⟩
  ·cases h
 ·cases h
theorem Jjw{draw:Bool}(h:Kd Gl S0 w0 s a g){o:Oper}{K:PSt->Prop}(hs:Ru P Gl draw o s K){K':Act->World->Prop}{Q:Exit->Act->World->Prop}(hK:∀ s' a' w',K s'->Inv Gl S0 w0 s' a' w'->K' a' w') :
  o.wp P a g.w K' Q:=by
 unfold Ru at hs;split at hs
 ·rename_i x args hc;obtain ⟨c,hop,hcal,hargs⟩:=Ym hc;have go:∀ {f:FuncId} {caps:List PV} {fn:Func},s.ev x=.fn f caps->caps.all Db=true->P.funcs[f]? = some fn->(fn.name == "runtime.NumGoroutine")=false->fn.body.isNone=false ->
    ∃ vs:Array Value,Ke (Rel g) (args.map s.ev++caps) vs.toList/\(execOp a.eval o).run P g.w=.ok (.enter f vs) g.w:=by
   intro f caps fn e1 ecap hfn1 hfn2 hfn3;have hx:=h.ev x;rw [e1] at hx;simp only [Rel,Km,Kh] at hx;obtain ⟨arr,hfv,hcaps⟩:=hx;refine ⟨c.args.map a.eval++arr, ?_, ?_⟩
   ·rw [cI,dM,hargs];refine Ke.append ⟨by simp,fun i p v hp hv=>?_⟩ ⟨hcaps.1,fun i p v hp hv=>?_⟩
    ·rw [aL] at hp hv;cases hi:args[i]? with
     | none=>rw [hi] at hp; cases hp
     | some y=>rw [hi] at hp hv; cases hp; cases hv; exact h.ev y
    ·have hpv:=hcaps.2 i p v hp hv;have hcap:=aG.1 ecap p (aD hp);cases p <;> simp only [Db] at hcap <;> try cases hcap
     all_goals exact hpv
   ·have hname:fn.name ≠ "runtime.NumGoroutine" := by simpa using hfn2
    have hbody:fn.body≠none:=fun e=>by rw [e] at hfn3; cases hfn3
    simp [execOp,hop,resolve,hcal,hfv,Deferred.ofValue,invoke,callFunc,run_program,hfn1,hname,hbody]
  rcases hs with ⟨f,caps,as,r,e1,ecap,e2,⟨⟨fn,hfn1,hfn2,hfn3⟩,hcall⟩,e4,_,e6⟩|⟨f,caps,as,r,ts,eqs,e1,ecap,e2,eeq,_,⟨⟨fn,hfn1,hfn2,hfn3⟩,hcall⟩,hsc,e6⟩
  ·obtain ⟨vs,hall,hrun⟩:=go e1 ecap hfn1 hfn2 hfn3;have hD:=Hq hall e2;unfold Oper.wp;rw [hrun];refine (hcall g.S g.w _ h.lt h.glob hD).mono fun e w' he=>?_;obtain ⟨v,g',rfl,rfl,ha⟩:=he;obtain ⟨g2,q1,q2,q3⟩:=h.after ha (o.dst.getD 0) e4;exact hK _ _ _ e6 ⟨g2,q2,q1.put _ q3⟩
  ·obtain ⟨vs,hall,hrun⟩:=go e1 ecap hfn1 hfn2 hfn3;obtain ⟨S1,b1,b2,b3,b4⟩:=h.borrow ts;have hD:=Ji6 h b1 b4 hall e2 eeq;unfold Oper.wp;rw [hrun];refine (hcall S1 g.w _ b2 b3 hD).mono fun e w' he=>?_;obtain ⟨v,g',rfl,rfl,ha⟩:=he;obtain ⟨k1,_⟩:=h.grow' ha.below;exact hK _ _ _ e6 ⟨{ g with w:=g'.w },rfl,k1.put _ (Jnp hsc ha.rel)⟩
 ·obtain ⟨x,e1,e2⟩:=hs;unfold evO at e1;split at e1
  ·rcases Kbg h o e1 with ⟨v,w',r1,r2⟩|⟨w',r1,r2⟩ <;> (unfold Oper.wp; rw [r1]; exact hK _ _ _ e2 r2)
  ·obtain ⟨p,hp,rfl⟩:=aC.1 e1;obtain ⟨z,r1,r2⟩:=Kca h o hp;unfold Oper.wp;rw [r1];exact hK _ _ _ e2 ⟨g,rfl,h.put _ r2⟩
def So(s n:PSt):PSt:={ s with H:=n.H,T:=n.T,X:=n.X }
def Jv4(P:Program)(Gl:GL)(o:Oper)(s n:PSt)(v:PV):Prop :=
 ∀ (S0:Bs) (w0:World) (a:Act) (g:GG) (K:Act->World->Prop) (Q:Exit->Act->World->Prop),Kd Gl S0 w0 s a g ->
  (∀ z g',Kd Gl S0 w0 (So s n) a g'->GLe g g'->Rel g' v z->K (a.put o.dst z) g'.w)->o.wp P a g.w K Q
def Jw6(P:Program)(Gl:GL)(o:Oper)(s:PSt)(C:Nat->Prop)(n:Nat->PSt)(v:PV):Prop :=
 ∀ (S0:Bs) (w0:World) (a:Act) (g:GG) (K:Act->World->Prop) (Q:Exit->Act->World->Prop),Kd Gl S0 w0 s a g ->
  (∀ x z g',C x->Kd Gl S0 w0 (So s (n x)) a g'->GLe g g'->Rel g' v z->K (a.put o.dst z) g'.w)->o.wp P a g.w K Q
def Jc4 : Op->Bool
 | .move _=>true
 | _=>false
def Sy(P:Program)(Gl:GL)(draw:Bool)(o:Oper)(s:PSt)(K:PSt->Prop):Prop :=
 Ru P Gl draw o s K\/(draw=false/\Jc4 o.op=false/\∃ C n v,Jw6 P Gl o s C n v/\∀ x,C x->K ((So s (n x)).put o.dst v))
theorem Nv{draw:Bool}(h:Kd Gl S0 w0 s a g){o:Oper}{K:PSt->Prop}(hs:Sy P Gl draw o s K){K':Act->World->Prop}{Q:Exit->Act->World->Prop}(hK:∀ s' a' w',K s'->Inv Gl S0 w0 s' a' w'->K' a' w') :
  o.wp P a g.w K' Q:=by
 rcases hs with hs|⟨_,_,C,n,v,h1,h2⟩
 ·exact Jjw h hs hK
 ·exact h1 S0 w0 a g K' Q h fun x z g' hx e1 _ e3=>hK _ _ _ (h2 x hx) ⟨g',rfl,e1.put _ e3⟩
end
end PM
