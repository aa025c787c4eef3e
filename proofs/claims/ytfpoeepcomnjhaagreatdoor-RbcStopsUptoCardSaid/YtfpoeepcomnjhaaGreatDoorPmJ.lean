import Derived.Test.YtfpoeepcomnjhaaGreatDoorPmF
import Derived.Laws.IdiomCopy
import Derived.Laws.MakeOwn
import Derived.Tactics
/-
 THE PURE MACHINE, J: alloc, box, store, buildSlice, makeMap, makeSlice, append: what they do to a state (evE), and that the model's operations do it.
-/
namespace PM
open Go Go.RowKit
/-- A slice type to whose values is appended: the element's type, cells and bytes; its zero value has as many cells. -/
def Jed (P:Program) (t:TypeId):Option (TypeId×Nat×Nat) :=
 match Oq P t with
 | some (e,_,k,b)=>match Jbi P e with
  | some z=>if z.cells.length=k∧k≠0 then some (e,k,b) else none
  | none=>none
 | none=>none
/-- The elements of a slice literal, in order. -/
def Gu (k:Nat):List (Nat×PV)→Nat→Option (List (List PV))
 | [],_=>some []
 | (i,p)::r,j=>if i=j then match Ct p.cells,Gu k r (j+1) with
   | some cs,some css=>if cs.length=k then some (cs::css) else none
   | _,_=>none
  else none
def Ic : PV→Bool
 | .agg _=>true
 | p=>p.one
def splice (cs:List PV) (o:Nat) (ns:List PV):List PV:=cs.take o++ns++cs.drop (o+ns.length)
inductive Eff where
 | none
 | obj (l:Nat) (ob:Qv)
 | tok (t n k:Nat)
 | xs (t:Nat) (x:Nat×Nat×List (List PV))
def Eff.app (e:Eff) (s:PSt):PSt :=
 match e with
 | .none=>s
 | .obj l ob=>{ s with H:=upd s.H l (some ob) }
 | .tok t n k=>{ s with T:=upd s.T t (some (n,k)) }
 | .xs t x=>{ s with X:=upd s.X t (some x) }
def Qi : Nat:=140737488351232
/-- What is appended: elements of k cells. -/
def Nd (t:Nat):Bool:=decide (500000000≤t)&&decide (t<1000000000)
def Jvc (k:Nat):PV→Option (List (List PV))
 | .nil=>some []
 | .lst _ k' _ yss=>if k'=k then some yss else none
 | _=>none
def Mg (P:Program) (dst:Option Nat) (T:Nat→Option (Nat×Nat)) (t t':TypeId) (x y:PV):Option (PV×Eff) :=
 match Jed P t,Ia P t',dst with
 | some (_,k,b),true,some d =>
  match Jvc k y with
  | some yss =>
   match x with
   | .nil=>if T d=none then (if yss.length * b≤Qi∧yss.length≤Qi then some (.lst (.own d) k b yss,.tok d yss.length k) else none) else none
   | .lst .full k' b' xss=>if k'=k∧b'=b∧T d=none then (if (xss.length+yss.length) * b≤Qi∧xss.length+yss.length≤Qi then some (.lst (.own d) k b (xss++yss),.tok d (xss.length+yss.length) k) else none) else none
   | .lst (.own t) k' b' xss=>if k'=k∧b'=b∧T t=some (xss.length,k) then (if (xss.length+yss.length) * b≤Qi∧xss.length+yss.length≤Qi then some (.lst (.own t) k b (xss++yss),.tok t (xss.length+yss.length) k) else none) else none
   | _=>none
  | none=>none
 | _,_,_=>none
/-- Operations that touch memory of the call's own. -/
def Jot (es:List (PV×List (List PV))) (i:Nat) (e:PV×List (List PV)):List (PV×List (List PV)):=if i<es.length then es.set i e else es++[e]
/-- A list is stored in such a map: its token is the entry's. -/
def Jcc (d:TypeDesc) (l:Nat) (es:List (PV×List (List PV))) (k' b:Nat) (tk:Nat→Nat) (k x:PV):Option (PV×Eff) :=
 match x with
 | .lst (.own t) k2 b2 xss=>if Cx d k=true∧k2=k'∧b2=b then (Jf3 k es).map fun r =>
   let i:=match r with|some (i,_)=>i|none=>es.length
   (.any,.obj l (.mapo (Jot es i (k,xss)) k' b (fun j=>if j=i then t else tk j))) else none
 | _=>none
def evE (P:Program) (dst:Option Nat) (op:Op) (ρ:Operand→PV) (H:Nat→Option Qv) (T:Nat→Option (Nat×Nat)) (X:XT):Option (PV×Eff) :=
 match op with
 | .alloc t=>match dst,Jbi P t with
  | some d,some z=>if ((H d).isNone&&decide (d<1000000))=true∧Ic z=true then some (.ref d 0,.obj d (.cells z.cells)) else none
  | _,_=>none
 | .box _ x=>match dst with
  | some d=>if ((H d).isNone&&decide (d<1000000))=true∧Ic (ρ x)=true then some (.ref d 0,.obj d (.cells (ρ x).cells)) else none
  | none=>none
 | .store t x y=>match ρ x with
  | .ref l o=>match H l,tyK P t with
   | some (.cells cs),some (_,n)=>if Ic (ρ y)=true∧(ρ y).cells.length=n∧o+n≤cs.length then some (.any,.obj l (.cells (splice cs o (ρ y).cells))) else none
   | _,_=>none
  | .eref tk k N j o=>match X tk,tyK P t,Ct (ρ y).cells with
   | some (k',b,xss),some (_,n),some ds=>if (Ic (ρ y) && !Nd tk)=true∧k'=k∧xss.length=N∧ds.length=n then (xss[j]?).bind fun cs=>if o+n≤cs.length then some (.any,.xs tk (k',b,xss.set j (splice cs o ds))) else none else none
   | _,_,_=>none
  | _=>none
 | .buildSlice t n parts=>match Jed P t,Gu ((Jed P t).getD (0,0,0)).2.1 (parts.toList.map fun x=>(x.1,ρ x.2)) 0 with
  | some (_,k,b),some xss=>if xss.length=n∧n * k≤16777216∧n * b≤Qi then some (.lst .full k b xss,.none) else none
  | _,_=>none
 | .makeMap _ r=>match dst,r with
  | some d,none=>if ((H d).isNone&&decide (d<1000000))=true then some (.mp d,.obj d (.map [])) else none
  | _,_=>none
 | .makeSlice t n c=>match Jed P t,dst,ρ n,ρ c with
  | some (_,k,b),some d,.int _ n0,.int _ m=>if n0=0∧T d=none then (if 0≤m∧m.toNat * b≤Qi∧m.toNat≤Qi then some (.lst (.own d) k b [],.tok d 0 k) else none) else none
  | _,_,_,_=>none
 | .mapUpdate t m k x=>match ρ m with
  | .mp l=>match H l,Tn P t,Fj (ρ x) with
   | some (.map es),some (d,_),some dv=>if Cx d (ρ k)=true∧Nm dv=true then (Jbw (ρ k) dv es).map fun es'=>(.any,.obj l (.map es')) else none
   | some (.mapo es k' b tk),some (d,_),some _=>Jcc d l es k' b tk (ρ k) (ρ x)
   | _,_,_=>none
  | _=>none
 | .call c=>match c.callee,c.args.toList,c.argTypes.toList with
  | .builtin .append,[x,y],[t,t']=>Mg P dst T t t' (ρ x) (ρ y)
  | _,_,_=>none
 | _=>none
/-- An operation is carried out, and what follows holds. -/
def Jh1 (P:Program) (o:Oper) (a:Act) (w:World) (K:Act→World→Prop):Prop :=
 (∃ v w',(execOp a.eval o).run P w=.ok (.value v) w'∧K (a.put o.dst v) w')∨(∃ w',(execOp a.eval o).run P w=.ok .skip w'∧K (a.put o.dst undef) w')
section
variable {P:Program} {Gl:Nat→Option (List PV)} {S0:Bs} {w0:World} {s:PSt} {a:Act} {g:GG} {w:World}
theorem Kv.monoD {S S':Qj} {w w':World} (hS:∀ B o,S B o→S' B o) (hw:∀ B o,S B o→w'.cell? ⟨B,o,none⟩=w.cell? ⟨B,o,none⟩) (hm:∀ B,(∀ o,S B o)→w'.heap[B]? = w.heap[B]?) {ps:List PV} {vs:List Value} (h:Kv (fun p v=>Kh S w p v∧p.one=true) ps vs):Kv (fun p v=>Kh S' w' p v∧p.one=true) ps vs :=
 h.mono fun _ _ hxy=>⟨hxy.1.mono hS hw hm,hxy.2⟩
theorem Ga {w w':World} {B:Nat} (h:w'.heap[B]? = w.heap[B]?) (o:Nat):w'.cell? ⟨B,o,none⟩=w.cell? ⟨B,o,none⟩:=World.cell?_of_block (w:=w) (a:=⟨B,o,none⟩) h
theorem Fw {w w':World} {B:Nat} (h:w'.heap[B]? = w.heap[B]?) (o:Nat):w'.frozen? ⟨B,o,none⟩=w.frozen? ⟨B,o,none⟩:=World.frozen?_of_block (w:=w) (a:=⟨B,o,none⟩) h
theorem Kw.exAt (h:Kw Gl S0 w0 s a g) {t k b:Nat} {xss:List (List PV)} (hx:s.X t=some (k,b,xss)) {B off n cap:Nat} (hh:g.hd t=.slice (some ⟨B,off,none⟩) n cap) (hc:0<cap):off=0∧n=xss.length∧ExB g S0.E w0.heap.size t k xss B cap:=by
 obtain ⟨_,_,_,_,_,⟨e|⟨_,e⟩,_⟩|⟨B',cap',e,_,hB⟩⟩:=h.exs t k b xss hx
 ·rw [e] at hh; cases hh
 ·rw [e] at hh; cases hh; omega
 ·rw [e] at hh; cases hh; exact ⟨rfl,rfl,hB⟩
/-- What the list holds is changed in place. -/
theorem Kw.exWorld (h:Kw Gl S0 w0 s a g) {t k b B cap:Nat} {xss xss':List (List PV)} {w':World} {S':Qj} {vs:List Value} (hx:s.X t=some (k,b,xss)) (hh:g.hd t=.slice (some ⟨B,0,none⟩) xss.length cap) (hc:0<cap) (hw:Vt (·=B) g.w w')
  (hS1:∀ B o,g.S B o→S' B o) (hS2:∀ B o,S' B o→g.S B o∨(g.w.heap.size≤B∧B<w'.heap.size))
  (hl:xss'.length=xss.length) (hk:∀ cs∈xss',cs.length=k) (hthere:w'.there B 0 (cap * k)) (hv:Kv (fun p v=>Kh S' w' p v∧p.one=true) xss'.flatten vs) (hr:w'.rangeAt B 0 vs) :
  Kw Gl S0 w0 { s with X:=upd s.X t (some (k,b,xss')) } a { g with w:=w',S:=S' }∧GLe g { g with w:=w',S:=S' }:=by
 obtain ⟨q1,q2,q3,q4,q5,_⟩:=h.exs t k b xss hx
 obtain ⟨_,_,r1,r2,r3,r4,r5,r6,r7,r8⟩:=h.exAt hx hh hc
 have hblk:∀ B',B'<g.w.heap.size→B'≠B→w'.heap[B']? = g.w.heap[B']?:=fun B' e1 e2=>hw.block B' e1 e2
 have hSB:∀ B' o,g.S B' o→B'≠B:=fun B' o ho e=>r4 o (e▸ho)
 have hSold:∀ B' o,B'<g.w.heap.size→S' B' o→g.S B' o:=fun B' o e ho=>(hS2 B' o ho).resolve_right fun q=>by omega
 have hle:GLe g { g with w:=w',S:=S' }:=⟨hS1,fun B' o ho=>Ga (hblk B' (h.lt _ _ ho) (hSB _ _ ho)) o,fun B' ho=>hblk B' (h.lt _ _ (ho 0)) (hSB _ _ (ho 0)),fun l ob e=>⟨rfl,ob,e,fun cs e=>⟨cs,e,rfl⟩⟩,fun t n k e=>⟨n,e,Nat.le_refl _,fun _=>rfl⟩⟩
 have hsz:=hw.size
 have hXB:∀ t' B',XB (upd s.X t (some (k,b,xss'))) { g with w:=w',S:=S' } t' B'→XB s.X g t' B':=by
  rintro t' B' ⟨e1,e2⟩
  refine ⟨?_,e2⟩
  by_cases e:t'=t
  ·rw [e,hx]; rfl
  ·rwa [Kr _ _ _ _ e] at e1
 refine ⟨{ hH:=h.hH,hT:=h.hT,defers:=h.defers,len:=h.len,tm:=fun i p v hp hv=>(h.tm i p v hp hv).mono hle,sub:=fun B' o ho=>hS1 _ _ (h.sub B' o ho),new:=fun B' o ho=>?_,lt:=fun B' o ho=>?_,below:=?_,objs:=fun l ob hob=>?_,inj:=h.inj,owns:=fun t' n' k' ht'=>?_,ownsEx:=fun t1 t2 B' h1 h2=>h.ownsEx t1 t2 B' (h1.congr rfl rfl) (h2.congr rfl rfl),ownsObj:=fun t' B' l h1 h2=>h.ownsObj t' B' l (h1.congr rfl rfl) h2,glob:=fun i cs hi=>(h.glob i cs hi).mono hle.S hle.cell hle.blk,exs:=fun t' k' b' xss0 hx'=>?_,exsEx:=fun t1 t2 B' h1 h2=>h.exsEx t1 t2 B' (hXB t1 B' h1) (hXB t2 B' h2),fix:=h.fix,fixT:=h.fixT },hle⟩
 ·rcases hS2 B' o ho with e|⟨e,_⟩
  ·exact h.new B' o e
  ·exact .inr (.inl (Nat.le_trans h.below.size e))
 ·rcases hS2 B' o ho with e|⟨_,e⟩
  ·exact Nat.lt_of_lt_of_le (h.lt B' o e) hsz
  ·exact e
 ·exact ⟨hw.os.trans h.below.os,hw.tape.trans h.below.tape,hw.output.trans h.below.output,Nat.le_trans h.below.size hsz,fun i hi he=>(hblk i (Nat.lt_of_lt_of_le hi h.below.size) fun e=>r2.elim (fun q=>by omega) fun q=>he (e▸q)).trans (h.below.block i hi he),Nat.le_trans h.below.dr hw.dr⟩
 ·obtain ⟨k1,k2,k3,k4⟩:=h.objs l ob hob
  have hne:g.φ l≠B:=r7 l (by rw [show g.H l=some ob from hob]; rfl)
  have hb:=hblk _ k2 hne
  exact ⟨k1,Nat.lt_of_lt_of_le k2 hsz,fun o ho=>k3 o (hSold _ _ k2 ho),k4.mono hle (fun o=>Ga hb o) (fun o=>Fw hb o) (fun arr c hc=>hb.trans hc)⟩
 ·rcases h.owns t' n' k' ht' with hn|⟨B',off',cap',e1,e2,e3⟩
  ·exact .inl hn
  ·refine .inr ⟨B',off',cap',e1,e2,fun hlt=>?_⟩
   obtain ⟨f1,f2,f3,f4⟩:=e3 hlt
   refine ⟨f1,Nat.lt_of_lt_of_le f2 hsz,fun j hj=>?_,fun hk o ho=>f4 hk o (hSold _ _ f2 ho)⟩
   by_cases e:B'=B
   ·subst e
    have:t'=t:=r8 t' ⟨n',k',off',cap',ht',e1,hlt⟩
    subst this
    have hT:g.T t'=some (n',k'):=ht'
    rw [q1] at hT; cases hT
    simp at hj
   ·show (w'.cell? _).isSome=true∧w'.frozen? _=false
    rw [Ga (hblk B' f2 e),Fw (hblk B' f2 e)]; exact f3 j hj
 ·by_cases e:t'=t
  ·subst e
   have hx'':upd s.X t' (some (k,b,xss')) t'=some (k',b',xss0):=hx'
   rw [Qc] at hx''; cases hx''
   refine ⟨by rw [hl]; exact q1,q2,hk,by rw [hl]; exact q4,by rw [hl]; exact q5,.inr ⟨B,cap,by rw [hl]; exact hh,hc,by rw [hl]; exact r1,r2,Nat.lt_of_lt_of_le r3 hsz,fun o ho=>r4 o (hSold _ _ r3 ho),⟨vs,hv,hr⟩,hthere,r7,fun t2 h2=>r8 t2 (h2.congr rfl rfl)⟩⟩
  ·have hx'':upd s.X t (some (k,b,xss')) t'=some (k',b',xss0):=hx'
   rw [Kr _ _ _ _ e] at hx''
   refine (h.exs t' k' b' xss0 hx'').mono hle rfl rfl hsz fun B' off n cap' e1 e2 e3 e4 e5 e6=>?_
   have hne:B'≠B:=fun eq=>e (h.exsEx t' t B ⟨by rw [hx'']; rfl,off,n,cap',by rw [← eq]; exact e1⟩ ⟨by rw [hx]; rfl,0,_,cap,hh,hc⟩)
   exact ⟨fun o=>Ga (hblk B' e3 hne) o,fun o=>Fw (hblk B' e3 hne) o,fun o ho=>e4 o (hSold _ _ e3 ho),e5,fun t2 h2=>e6 t2 (h2.congr rfl rfl)⟩
theorem Lf {t e:TypeId} {k b:Nat} (h:Jed P t=some (e,k,b)):∃ (i:TypeInfo) (z:Value),P.underlying t=some (.slice e)∧P.info? e=some i∧i.size=k∧i.bytes=b∧i.zero=some z∧z.cells.size=k∧k≠0:=by
 unfold Jed at h
 split at h
 ·rename_i e' x k' b' he
  split at h
  ·rename_i z hz
   split at h
   ·rename_i hc
    cases h
    obtain ⟨i,d,h1,h2,h3,h4,h5,h6⟩:=Le he
    obtain ⟨i',zv,hi',hz1,hz2,_⟩:=Pt hz
    rw [h2] at hi'; cases hi'
    refine ⟨i,zv,h1,h2,h5.symm,h6.symm,hz1, ?_,hc.2⟩
    rw [← hc.1,← hz2]
    cases zv
    case agg arr=>simp [Value.cells,Gw,PV.cells]
    all_goals
     (simp only [Value.cells,Gw]
      unfold Cw
      split <;> simp [PV.cells])
   ·cases h
  ·cases h
 ·cases h
/-- A value that may be laid into a variable. -/
theorem Rel.boxed {p:PV} {v:Value} (h:Rel g p v) (hb:Ic p=true):Kv (Wk g) p.cells v.cells.toList:=by
 cases p
 case agg cs =>
  simp only [Rel,Qb] at h
  obtain ⟨arr,rfl,h2⟩:=h
  exact h2
 case any=>simp [Ic,PV.one] at hb
 case tup vs=>simp [Ic,PV.one] at hb
 all_goals
  (simp only [Rel,Qb] at h
   obtain ⟨e1,e2⟩:=h.oneCell rfl
   rw [e2]
   exact .cons ⟨h,e1⟩ .nil)
theorem Jmk {g':GG} {l B:Nat} (h1:g'.φ l=B) (h2:(g'.H l).isSome=true):Rel g' (.ref l 0) (.pointer (some ⟨B,0,none⟩)):=Fq.2 ⟨by rw [h1],h2⟩
theorem Jdo {t:TypeId} {z:PV} (h:Jbi P t=some z) (hb:Ic z=true):∃ i zv,P.info? t=some i∧i.zero=some zv∧Kv (Wk g) z.cells zv.cells.toList:=by
 obtain ⟨i,zv,hi,h1,h2,hone⟩:=Pt h
 refine ⟨i,zv,hi,h1, ?_⟩
 rw [← h2]
 rw [← h2] at hb
 cases zv
 case agg arr =>
  simp only [Gw,PV.cells,Value.cells]
  exact Jf5 fun v hv=>hone v (by simpa [Value.cells] using hv)
 all_goals
  (simp only [Gw] at hb ⊢
   exact Rel.boxed (Jac g _) hb)
theorem Jq3 (h:Kw Gl S0 w0 s a g) (o:Oper) {t:TypeId} {d:Nat} {z:PV} (hop:o.op=.alloc t) (hzk:Jbi P t=some z) (hH:s.H d=none) (hd6:d<1000000) (hb:Ic z=true) :
  Jh1 P o a g.w (fun a' w'=>Inv Gl S0 w0 (({ s with H:=upd s.H d (some (.cells z.cells)) }:PSt).put o.dst (.ref d 0)) a' w'):=by
 obtain ⟨i,zv,h1,h2,h3⟩:=Jdo (g:=g) hzk hb
 obtain ⟨g',e1,e2,e3,e4,e5,e6⟩:=h.newVar (l:=d) t (by rw [h.hH]; exact hH) hd6 h3
 refine .inl ⟨.pointer (some ⟨g.w.heap.size,0,none⟩),g'.w, ?_,⟨g',rfl,e2.put _ (Jmk e4 e5)⟩⟩
 rw [e1]
 simp [execOp,hop,Instr.alloc,zeroValue,typeInfo,h1,h2,newVar,newRow]
theorem Jur (h:Kw Gl S0 w0 s a g) (o:Oper) {t:TypeId} {d:Nat} {x:Operand} (hop:o.op=.box t x) (hH:s.H d=none) (hd6:d<1000000) (hb:Ic (s.ev x)=true) :
  Jh1 P o a g.w (fun a' w'=>Inv Gl S0 w0 (({ s with H:=upd s.H d (some (.cells (s.ev x).cells)) }:PSt).put o.dst (.ref d 0)) a' w'):=by
 obtain ⟨g',e1,e2,e3,e4,e5,e6⟩:=h.newVar (l:=d) t (by rw [h.hH]; exact hH) hd6 ((h.ev x).boxed hb)
 refine .inl ⟨.pointer (some ⟨g.w.heap.size,0,none⟩),g'.w, ?_,⟨g',rfl,e2.put _ (Jmk e4 e5)⟩⟩
 rw [e1]
 simp [execOp,hop,Instr.box,newVar,newRow]
theorem Kv.splice {R:PV→Value→Prop} {cs ns:List PV} {vs us:List Value} (h:Kv R cs vs) (hn:Kv R ns us) (o:Nat):Kv R (splice cs o ns) (vs.take o++us++vs.drop (o+us.length)):=by
 unfold PM.splice
 rw [hn.1]
 exact ((h.take o).append hn).append (h.drop _)
theorem Ou {w:World} {B o:Nat} {vs us:List Value} (h:w.rangeAt B 0 vs) (hr:o+us.length≤vs.length) (ht:w.there B 0 vs.length):(w.setCells B o us).rangeAt B 0 (vs.take o++us++vs.drop (o+us.length)):=by
 intro j v hv
 rw [Nat.zero_add]
 have hmin:min o vs.length=o:=by omega
 rw [List.append_assoc,List.getElem?_append] at hv
 simp only [List.length_take,hmin] at hv
 by_cases h1:j<o
 ·rw [if_pos h1,List.getElem?_take,if_pos h1] at hv
  rw [World.cell?_setCells_out _ _ _ _ _ (fun _ _=>.inl h1)]
  have:=h j v hv
  rwa [Nat.zero_add] at this
 ·rw [if_neg h1,List.getElem?_append] at hv
  by_cases h2:j - o<us.length
  ·rw [if_pos h2,List.getElem?_eq_getElem h2] at hv
   cases hv
   have:=World.cell?_setCells_in B us o w (fun i hi=>by have:=(ht (o+i) (by omega)).1; rwa [Nat.zero_add] at this) (j - o) h2
   rwa [show o+(j - o)=j by omega] at this
  ·rw [if_neg h2,List.getElem?_drop] at hv
   rw [World.cell?_setCells_out _ _ _ _ _ (fun _ _=>.inr (by show o+us.length≤j; omega))]
   have:=h _ v hv
   rwa [show 0+(o+us.length+(j - o - us.length))=j by omega] at this
theorem Jro (h:Kw Gl S0 w0 s a g) (o:Oper) {t:TypeId} {x y:Operand} {l off n:Nat} {r:Bool} {cs:List PV} (hop:o.op=.store t x y) (hx:s.ev x=.ref l off) (hl:s.H l=some (.cells cs)) (ht:tyK P t=some (r,n))
  (hb:Ic (s.ev y)=true) (hn:(s.ev y).cells.length=n) (ho:off+n≤cs.length) :
  Jh1 P o a g.w (fun a' w'=>Inv Gl S0 w0 (({ s with H:=upd s.H l (some (.cells (splice cs off (s.ev y).cells))) }:PSt).put o.dst .any) a' w'):=by
 have hgl:g.H l=some (.cells cs):=by rw [h.hH]; exact hl
 obtain ⟨o1,o2,o3,vs,v1,v2,v3⟩:=h.objs l _ hgl
 have hxr:=h.ev x
 rw [hx,Fq] at hxr
 have hyr:=(h.ev y).boxed hb
 have hlen:(a.eval y).cells.size=n:=by rw [← hn,hyr.1]; simp
 obtain ⟨i,d,t1,t2,t3⟩:=Mi ht
 have hsz:i.size=n:=((Prod.mk.inj t3).2).symm
 have hvl:vs.length=cs.length:=v1.1.symm
 have hthere:g.w.there (g.φ l) off n:=fun j hj=>by have:=v3 (off+j) (by omega); rwa [Nat.zero_add] at this
 have hcell1:∀ v∈(a.eval y).cells.toList,v.oneCell'=true:=fun v hv=>by
  obtain ⟨i,hi⟩:=List.getElem?_of_mem hv
  obtain ⟨p,hp,hr⟩:=hyr.left hi
  exact hr.2
 have hst:=run_storeCells_cells (P:=P) (g.φ l) off (a.eval y).cells.toList 0 g.w (fun j hj=>(hthere j (by simpa [hlen] using hj)).1) (fun j hj=>(hthere j (by simpa [hlen] using hj)).2) hcell1
 simp only [Nat.add_zero] at hst
 obtain ⟨h2,e2⟩:=h.setObj (l:=l) (ob':=.cells (splice cs off (s.ev y).cells)) hgl (Hv g.w (g.φ l) off (a.eval y).cells.toList)
  (fun cs' e=>by cases e; exact ⟨_,rfl,by simp [splice,hn]; omega⟩)
  (fun g' hg' hw'=>⟨_,(v1.mono (Wk.mono hg')).splice (hyr.mono (Wk.mono hg')) off,by rw [hw']; exact Ou v2 (by simp [hlen]; omega) v3,by
   rw [hw']
   have hlen2:(vs.take off++(a.eval y).cells.toList++vs.drop (off+(a.eval y).cells.toList.length)).length=vs.length:=by simp [hlen]; omega
   rw [hlen2]
   exact World.there_setCells v3 _ _ _⟩)
 refine .inr ⟨_, ?_,⟨_,rfl,h2.put _ (Rel.any _ _)⟩⟩
 simp [execOp,hop,hxr.1,Instr.storeAt,Instr.sureAddr,storeVar,Vu t1,hsz,hlen,hst]
theorem Mk {k:Nat}:∀ {xss:List (List PV)},(∀ cs∈xss,cs.length=k)→xss.flatten.length=xss.length * k
 | [],_=>by simp
 | c::cs,h=>by
  have h1:=h c (by simp)
  have h2:=Mk (xss:=cs) (fun x hx=>h x (by simp [hx]))
  rw [List.flatten_cons,List.length_append,h1,h2,List.length_cons,Nat.succ_mul]; omega
theorem Jpi {k:Nat}:∀ {xss:List (List PV)} {j:Nat} {cs:List PV} {o:Nat} {ds:List PV},(∀ c∈xss,c.length=k)→xss[j]? = some cs→o+ds.length≤cs.length→(xss.set j (splice cs o ds)).flatten=splice xss.flatten (j * k+o) ds
 | [],j,cs,_,_,_,h,_=>by simp at h
 | c::r,0,cs,o,ds,hk,h,ho=>by
  simp at h; subst h
  simp only [List.set_cons_zero,List.flatten_cons,splice,Nat.zero_mul,Nat.zero_add]
  rw [List.take_append_of_le_length (by omega),List.drop_append_of_le_length (by omega)]
  simp only [List.append_assoc]
 | c::r,j+1,cs,o,ds,hk,h,ho=>by
  have hc:c.length=k:=hk c (by simp)
  have ih:=Jpi (k:=k) (xss:=r) (j:=j) (cs:=cs) (o:=o) (ds:=ds) (fun x hx=>hk x (by simp [hx])) (by simpa using h) ho
  rw [List.set_cons_succ,List.flatten_cons,List.flatten_cons,ih]
  unfold splice
  have e1:(j+1) * k+o - k=j * k+o:=by rw [Nat.succ_mul]; omega
  have e2:(j+1) * k+o+ds.length - k=j * k+o+ds.length:=by rw [Nat.succ_mul]; omega
  have l1:List.take ((j+1) * k+o) c=c:=List.take_of_length_le (by rw [hc,Nat.succ_mul]; omega)
  have l2:List.drop ((j+1) * k+o+ds.length) c=[]:=List.drop_eq_nil_of_le (by rw [hc,Nat.succ_mul]; omega)
  rw [List.take_append,List.drop_append,l1,l2,hc,e1,e2]
  simp
theorem Jp9 (h:Kw Gl S0 w0 s a g) (o:Oper) {t:TypeId} {x y:Operand} {tk k b N j off n:Nat} {r:Bool} {xss:List (List PV)} {cs ds:List PV} (hop:o.op=.store t x y) (hx:s.ev x=.eref tk k N j off) (hX:s.X tk=some (k,b,xss)) (hN:xss.length=N) (ht:tyK P t=some (r,n))
  (hb:Ic (s.ev y)=true) (hd:Ct (s.ev y).cells=some ds) (hn:ds.length=n) (hcs:xss[j]? = some cs) (ho:off+n≤cs.length) :
  Jh1 P o a g.w (fun a' w'=>Inv Gl S0 w0 (({ s with X:=upd s.X tk (some (k,b,xss.set j (splice cs off ds))) }:PSt).put o.dst .any) a' w'):=by
 obtain ⟨q1,q2,q3,q4,q5,q6⟩:=h.exs tk _ _ _ hX
 have hxr:=h.ev x
 rw [hx] at hxr
 simp only [Rel,Qb,Kx] at hxr
 obtain ⟨⟨B,q,hxv⟩,N',r1,r2,r3⟩:=hxr
 rw [q1] at r1; cases r1
 obtain ⟨B1,cap1,e1,e2⟩:=r3 hN.symm
 rw [hxv] at e2; cases e2
 have hj:j<xss.length:=(List.getElem?_eq_some_iff.1 hcs).1
 have hyr:=(h.ev y).boxed hb
 have hdl:(s.ev y).cells.length=n:=by rw [← hn,Eu hd]
 have hlen:(a.eval y).cells.size=n:=by rw [← hdl,hyr.1]; simp
 obtain ⟨i,d,t1,t2,t3⟩:=Mi ht
 have hsz:i.size=n:=((Prod.mk.inj t3).2).symm
 have hck:cs.length=k:=q3 cs (List.mem_of_getElem? hcs)
 rcases q6 with ⟨_,rfl⟩|⟨B2,cap2,e3,hc0,p1,p2,p3,p4,⟨vs,v1,v2⟩,p5,p6,p7⟩
 ·simp at hj
 ·rw [e3] at e1
  simp only [Value.slice.injEq,Option.some.injEq,Addr.mk.injEq,and_true] at e1
  obtain ⟨rfl,_,rfl⟩:=e1
  have hfl:xss.flatten.length=xss.length * k:=Mk q3
  have hjk:j * k+k≤xss.length * k:=by
   have:(j+1) * k≤xss.length * k:=Nat.mul_le_mul_right _ hj
   rwa [Nat.succ_mul] at this
  have hck2:xss.length * k≤cap2 * k:=Nat.mul_le_mul_right _ p1
  have hvl:vs.length=xss.length * k:=by rw [← v1.1,hfl]
  have hthere:g.w.there B2 (j * k+off) n:=fun i hi=>by have:=p5 (j * k+off+i) (by omega); rwa [Nat.zero_add] at this
  have hcell1:∀ v∈(a.eval y).cells.toList,v.oneCell'=true:=fun v hv=>by
   obtain ⟨i,hi⟩:=List.getElem?_of_mem hv
   obtain ⟨p,hp,hr⟩:=hyr.left hi
   exact hr.2
  have hst:=run_storeCells_cells (P:=P) B2 (j * k+off) (a.eval y).cells.toList 0 g.w (fun j hj=>(hthere j (by simpa [hlen] using hj)).1) (fun j hj=>(hthere j (by simpa [hlen] using hj)).2) hcell1
  simp only [Nat.add_zero] at hst
  have hbut:=Hv g.w B2 (j * k+off) (a.eval y).cells.toList
  have hdat:=(Cz hyr hd).mono fun _ _ q=>(⟨q.1,q.2.1⟩:Kh g.S g.w _ _∧_)
  have hv12:vs.length≤cap2 * k:=by omega
  have hth0:g.w.there B2 0 vs.length:=fun i hi=>p5 i (by omega)
  have hk':∀ c∈xss.set j (splice cs off ds),c.length=k:=fun c hc=>by
   rcases List.mem_or_eq_of_mem_set hc with hc|rfl
   ·exact q3 c hc
   ·simp only [splice,List.length_append,List.length_take,List.length_drop]; omega
  have hv':Kv (fun p v=>Kh g.S g.w p v∧p.one=true) (xss.set j (splice cs off ds)).flatten (vs.take (j * k+off)++(a.eval y).cells.toList++vs.drop (j * k+off+(a.eval y).cells.toList.length)):=by
   rw [Jpi q3 hcs (by omega)]
   exact v1.splice hdat (j * k+off)
  obtain ⟨h2,e2'⟩:=h.exWorld (t:=tk) (xss':=xss.set j (splice cs off ds)) (w':=g.w.setCells B2 (j * k+off) (a.eval y).cells.toList) (S':=g.S) hX e3 hc0
   ⟨hbut.os,hbut.tape,hbut.output,Nat.le_of_eq hbut.size.symm,fun i _ hne=>hbut.block i hne,Nat.le_of_eq hbut.drawn.symm⟩ (fun _ _ e=>e) (fun _ _ e=>.inl e) (by simp) hk' (World.there_setCells p5 _ _ _) (hv'.monoD (fun _ _ e=>e) (fun B' o ho=>hbut.cell fun e=>p4 o (e▸ho)) fun B' ho=>hbut.block _ fun e=>p4 0 (e▸ho 0)) (Ou v2 (by simp [hlen]; omega) hth0)
  refine .inr ⟨_, ?_,⟨_,rfl,h2.put _ (Rel.any _ _)⟩⟩
  simp [execOp,hop,hxv,Instr.storeAt,Instr.sureAddr,storeVar,Vu t1,hsz,hlen,hst]
theorem Jdc {k:Nat}:∀ {parts:List (Nat×PV)} {j:Nat} {xss:List (List PV)},Gu k parts j=some xss→xss.length=parts.length∧∀ cs∈xss,cs.length=k
 | [],j,xss,h=>by simp only [Gu] at h; cases h; simp
 | (i,p)::r,j,xss,h=>by
  simp only [Gu] at h
  split at h
  ·split at h
   ·rename_i cs css h1 h2
    split at h
    ·rename_i hk
     cases h
     obtain ⟨e1,e2⟩:=Jdc h2
     exact ⟨by simp [e1],fun c hc=>by
      rcases List.mem_cons.1 hc with rfl|hc
      ·exact hk
      ·exact e2 c hc⟩
    ·cases h
   ·cases h
  ·cases h
theorem Jpb {k:Nat} (hk:k≠0):∀ (parts:List (Nat×PV)) (vparts:List (Nat×Value)) (j:Nat) (xss:List (List PV)) (cells:Array Value),
  Kv (fun (x:Nat×PV) (y:Nat×Value)=>x.1=y.1∧Rel g x.2 y.2) parts vparts→Gu k parts j=some xss→cells.size=(j+parts.length) * k →
  ∃ cells',Instr.fill (fun i=>some (i * k,k)) cells vparts=some cells'∧cells'.size=cells.size∧cells'.toList.take (j * k)=cells.toList.take (j * k) ∧
   Kv (fun p v=>Kh g.S g.w p v∧p.one=true∧v.oneCell'=true) xss.flatten (cells'.toList.drop (j * k))
 | [],vparts,j,xss,cells,hp,he,hs=>by
  rw [hp.nil_left]
  simp only [Gu] at he; cases he
  exact ⟨cells,rfl,rfl,rfl,by rw [List.drop_of_length_le (by simp at hs ⊢; omega)]; exact .nil⟩
 | (i,p)::parts,vparts,j,xss,cells,hp,he,hs=>by
  obtain ⟨⟨i',v⟩,vparts',rfl,⟨e1,e2⟩,hp'⟩:=hp.cons_left
  simp only at e1 e2
  subst e1
  simp only [Gu] at he
  split at he
  ·rename_i hij
   subst hij
   split at he
   ·rename_i cs css h1 h2
    split at he
    ·rename_i hck
     cases he
     have hlen:=Eu h1
     have hbox:Ic p=true:=by
      cases p <;> first|rfl|skip
      all_goals (simp [PV.cells,Ct,Zj] at h1)
     have hcells:=e2.boxed hbox
     have hvn:v.cells.size=k:=by rw [← hck,hlen,hcells.1]; simp
     have hik:(i+(parts.length+1)) * k=i * k+k+parts.length * k:=by rw [Nat.add_mul,Nat.add_mul]; omega
     have hsz:i * k+k≤cells.size:=by rw [hs]; simp only [List.length_cons]; rw [hik]; omega
     have hset:=Jhn (i * k) v.cells.toList 0 cells (by simp [hvn]; omega)
     simp only [Nat.add_zero] at hset
     have hset':(v.cells.zipIdx.foldl (fun cs (x:Value×Nat)=>cs.setIfInBounds (i * k+x.2) x.1) cells).toList=cells.toList.take (i * k)++v.cells.toList++cells.toList.drop (i * k+k):=by
      rw [← Array.foldl_toList,Array.toList_zipIdx,hset]
      simp [hvn]
     have hsize:(v.cells.zipIdx.foldl (fun cs (x:Value×Nat)=>cs.setIfInBounds (i * k+x.2) x.1) cells).size=cells.size:=by
      rw [← Array.length_toList,hset']
      simp [hvn]; omega
     obtain ⟨cells',f1,f2,f3,f4⟩:=Jpb hk parts vparts' (i+1) css (v.cells.zipIdx.foldl (fun cs (x:Value×Nat)=>cs.setIfInBounds (i * k+x.2) x.1) cells) hp' h2 (by rw [hsize,hs]; simp only [List.length_cons]; congr 1; omega)
     have hmul:(i+1) * k=i * k+k:=by rw [Nat.add_mul]; omega
     rw [hmul,hset'] at f3
     have hl1:(cells.toList.take (i * k)).length=i * k:=by simp; omega
     have htake:(cells.toList.take (i * k)++v.cells.toList++cells.toList.drop (i * k+k)).take (i * k+k)=cells.toList.take (i * k)++v.cells.toList:=by
      rw [List.take_append_of_le_length (by simp [hvn]; omega)]
      exact List.take_of_length_le (by simp [hvn]; omega)
     rw [htake] at f3
     refine ⟨cells', ?_,by rw [f2,hsize], ?_, ?_⟩
     ·unfold Instr.fill
      simp only
      rw [if_neg (by simp [hvn]; omega)]
      exact f1
     ·have:=congrArg (List.take (i * k)) f3
      rw [List.take_take,Nat.min_eq_left (by omega),List.take_left' hl1] at this
      exact this
     ·have hdrop:cells'.toList.drop (i * k)=v.cells.toList++cells'.toList.drop (i * k+k):=by
       have h3:=congrArg (List.drop (i * k)) f3
       rw [List.drop_take,show i * k+k - i * k=k by omega,List.drop_left' hl1] at h3
       rw [← h3,show i * k+k=i * k+k from rfl,← List.drop_drop,List.take_append_drop]
      rw [hdrop,List.flatten_cons]
      rw [hmul] at f4
      exact (Cz hcells h1).append f4
    ·cases he
   ·cases he
  ·cases he
theorem Jjh (h:Kw Gl S0 w0 s a g) (o:Oper) {t e:TypeId} {n k b:Nat} {parts:Array (Nat×Operand)} {xss:List (List PV)} (hop:o.op=.buildSlice t n parts) (hk:Jed P t=some (e,k,b))
  (he:Gu k (parts.toList.map fun x=>(x.1,s.ev x.2)) 0=some xss) (hn:xss.length=n) (hb1:n * k≤16777216) (hb2:n * b≤Qi) :
  Jh1 P o a g.w (fun a' w'=>Inv Gl S0 w0 (s.put o.dst (.lst .full k b xss)) a' w'):=by
 obtain ⟨i,z,k1,k2,k3,k4,k5,k6,k7⟩:=Lf hk
 obtain ⟨e1,e2⟩:=Jdc he
 have hp:Kv (fun (x:Nat×PV) (y:Nat×Value)=>x.1=y.1∧Rel g x.2 y.2) (parts.toList.map fun x=>(x.1,s.ev x.2)) (parts.toList.map fun x=>(x.1,a.eval x.2)) :=
  ⟨by simp,fun i x y hx hy=>by
   simp only [List.getElem?_map] at hx hy
   cases hp:parts.toList[i]? with
   | none=>rw [hp] at hx; cases hx
   | some q =>
    rw [hp] at hx hy
    cases hx; cases hy
    exact ⟨rfl,h.ev q.2⟩⟩
 have hzero:((Array.range (n * k)).map (z.cells[· % z.cells.size]!)).size=(0+(parts.toList.map fun x=>(x.1,s.ev x.2)).length) * k:=by simp at e1 ⊢; rw [← e1,hn]
 obtain ⟨cells',f1,f2,f3,f4⟩:=Jpb (g:=g) k7 _ _ 0 xss _ hp he hzero
 simp only [Nat.zero_mul,List.drop_zero] at f4
 obtain ⟨h2,g2⟩:=h.newRow cells' e cells'.size
 have hlt:n≤Qi:=by
  have:n * 1≤n * k:=Nat.mul_le_mul_left n (by omega)
  unfold Qi; omega
 refine .inl ⟨.slice (some ⟨g.w.heap.size,0,none⟩) n n,g.w.alloc (.cells cells' e), ?_,⟨_,rfl,h2.put _ ?_⟩⟩
 ·have hle:¬ (16777216<n * k):=by omega
  have hrun:(Instr.buildSlice t n (parts.map fun (i,x)=>(i,a.eval x))).run P g.w=.ok (.slice (some ⟨g.w.heap.size,0,none⟩) n n) (g.w.alloc (.cells cells' e)):=by
   have f1':Instr.fill (fun i=>some (i * k,k)) ((Array.range (n * k)).map (z.cells[· % z.cells.size]!)) (parts.toList.map fun x=>(x.1,a.eval x.2))=some cells':=f1
   by_cases hz0:n * k=0
   ·have hr1:∀ f:Nat→Value,(Array.range 0).map f=#[]:=fun f=>by simp [Array.range]
    rw [hz0,hr1] at f1'
    simp only [Instr.buildSlice,Sem.run_bind,run_underlying k1,Result.andThen_ok,Vu k2,k3]
    simp [hz0,hr1,f1',newRow]
   ·simp only [Instr.buildSlice,Sem.run_bind,run_underlying k1,Result.andThen_ok,Vu k2,k3]
    simp [hle,hz0,zeroValue,typeInfo,k2,k5,f1',newRow]
  simp [execOp,hop,hrun]
 ·simp only [Rel,Qb,Kx,Kh]
  rw [hn]
  refine ⟨hb2,by unfold Qi at hlt; exact hlt,by simp,.inr ⟨g.w.heap.size,0,n,rfl,Nat.le_refl _,fun _=>rfl, ?_⟩⟩
  refine Ys e2 (vs:=cells'.toList) ⟨f4.1,fun i p v hp hv=>?_⟩ (Ef _ _ _) (fun j hj=>.inr ⟨rfl,by simpa using hj⟩)
  have:=f4.2 i p v hp hv
  exact ⟨this.1.mono g2.S g2.cell g2.blk,this.2.1⟩
theorem Jnw (h:Kw Gl S0 w0 s a g) (o:Oper) {t:TypeId} {d:Nat} (hop:o.op=.makeMap t none) (hH:s.H d=none) (hd6:d<1000000) :
  Jh1 P o a g.w (fun a' w'=>Inv Gl S0 w0 (({ s with H:=upd s.H d (some (.map [])) }:PSt).put o.dst (.mp d)) a' w'):=by
 obtain ⟨h1,e1⟩:=h.grow' (Gb g.w (.map #[] 0))
 have hz:=h.below.size
 have hl:g.H d=none:=by rw [h.hH]; exact hH
 obtain ⟨h2,e2⟩:=h1.addObj (l:=d) (B:=g.w.heap.size) (ob:=.map []) hl hd6 (.inl (by omega)) (by show g.w.heap.size<(g.w.alloc _).heap.size; simp) (fun o ho=>by have:=h.lt _ _ ho; omega)
  (fun l' hl'=>h.phi_lt l' hl') (fun t ht=>h.spare_lt t (ht.congr rfl rfl)) (fun t ht=>h.xb_lt t (ht.congr rfl)) (fun g' hg' hw'=>⟨#[],0,by rw [hw']; exact heap_alloc_new g.w _,.nil⟩)
 refine .inl ⟨.map (some g.w.heap.size),_, ?_,⟨_,rfl,h2.put _ ?_⟩⟩
 ·simp [execOp,hop,Instr.makeMap,newObj,Sem.run]
 ·simp [Rel,Qb,Kx,upd]
theorem Jtf (h:Kw Gl S0 w0 s a g) (o:Oper) {t:TypeId} {m k x:Operand} {l k' b:Nat} {tk:Nat→Nat} {es:List (PV×List (List PV))} {d:TypeDesc} {z r:PV} {ef:Eff} (hop:o.op=.mapUpdate t m k x) (hm:s.ev m=.mp l) (hH:s.H l=some (.mapo es k' b tk))
  (hkd:Tn P t=some (d,z)) (he:Jcc d l es k' b tk (s.ev k) (s.ev x)=some (r,ef)) :
  Jh1 P o a g.w (fun a' w'=>Inv Gl S0 w0 ((ef.app s).put o.dst r) a' w'):=by
 unfold Jcc at he
 split at he
 ·rename_i t' k2 b2 xss hxv
  split at he
  ·rename_i hc
   obtain ⟨hd,rfl,rfl⟩:=hc
   obtain ⟨r0,hr0,he⟩:=Option.map_eq_some_iff.1 he
   simp only [Prod.mk.injEq] at he
   obtain ⟨rfl,rfl⟩:=he
   have hgl:g.H l=some (.mapo es k2 b2 tk):=by rw [h.hH]; exact hH
   obtain ⟨o1,o2,o3,hk0,arr,clock,b1,b2',b3⟩:=h.objs l _ hgl
   obtain ⟨kt,et,m1,m2,m3,m4,m5⟩:=Ot hkd
   have hmx:a.eval m=.map (some (g.φ l)):=by have:=h.ev m; rw [hm] at this; exact this.1
   have hk:=h.ev k
   have hkv:Kh g.S g.w (s.ev k) (a.eval k):=by
    revert hk hd
    cases s.ev k <;> intro hd hk <;> first|exact hk|(cases d <;> simp [Cx] at hd; done)|skip
    cases d <;> simp only [Cx] at hd <;> try cases hd
    obtain ⟨x,y,e⟩:=Dk hd
    rw [e] at hk ⊢
    exact Jdh hk
   have hx:Kx g (.lst (.own t') k2 b2 xss) (a.eval x):=by have:=h.ev x; rw [hxv] at this; exact this
   have hck:=Gy (P:=P) (w:=g.w) m2 m5 hd hkv false
   have fin:∀ (es':List (PV×List (List PV))) (tk':Nat→Nat) (arr':Array MapEntry) (clock':Nat),arr'.size=es'.length →
     (∀ g':GG,GLe g g'→∀ (i:Nat) (e:PV×List (List PV)) (m:MapEntry),es'[i]? = some e→arr'[i]? = some m→Kh g'.S g'.w e.1 m.key∧Kx g' (.lst (.own (tk' i)) k2 b2 e.2) m.val) →
     (Instr.mapUpdate t (.map (some (g.φ l))) (a.eval k) (a.eval x)).run P g.w=.ok () { g.w with heap:=g.w.heap.setIfInBounds (g.φ l) (.map arr' clock') } →
     Jh1 P o a g.w (fun a' w'=>Inv Gl S0 w0 (({ s with H:=upd s.H l (some (.mapo es' k2 b2 tk')) }:PSt).put o.dst .any) a' w'):=by
    intro es' tk' arr' clock' hsz hall hrun
    obtain ⟨hs1,hs2⟩:=MapKept.heap_set (o':=.map arr' clock') b1
    obtain ⟨h2,e2⟩:=h.setObj (l:=l) (ob':=.mapo es' k2 b2 tk') (w':={ g.w with heap:=g.w.heap.setIfInBounds (g.φ l) (.map arr' clock') }) hgl
     ⟨rfl,rfl,rfl,by simp,fun r hr=>hs2 r hr,rfl⟩ (fun cs e=>by cases e) (fun g' hg' hw'=>⟨hk0,arr',clock',by rw [hw']; exact hs1,hsz,hall g' hg'⟩)
    refine .inr ⟨_, ?_,⟨_,rfl,h2.put _ (Rel.any _ _)⟩⟩
    simp [execOp,hop,hmx,hrun]
   rcases Jmz (P:=P) m2 m5 hd hkv b2' b3 hr0 with ⟨rfl,hfk⟩|⟨i,ys,m',key,rfl,hkey,hfk,h3,h4⟩
   ·refine fin (Jot es es.length (s.ev k,xss)) (fun j=>if j=es.length then t' else tk j) (arr.push { key:=a.eval k,val:=a.eval x,born:=clock }) (clock+1) (by simp [Jot,b2']) (fun g' hg' i e m he' hm'=>?_) ?_
    ·unfold Jot at he'
     rw [if_neg (Nat.lt_irrefl _),List.getElem?_append] at he'
     rw [Array.getElem?_push] at hm'
     by_cases hi:i<es.length
     ·rw [if_pos hi] at he'
      rw [if_neg (by omega)] at hm'
      obtain ⟨q1,q2⟩:=b3 i e m he' hm'
      rw [if_neg (by omega)]
      exact ⟨q1.mono hg'.S hg'.cell hg'.blk,q2.mono hg'⟩
     ·rw [if_neg hi] at he'
      have hie:i=es.length:=by
       have:=(List.getElem?_eq_some_iff.1 he').1
       simp at this; omega
      subst hie
      rw [if_pos b2'.symm] at hm'
      simp at he'; cases hm'; subst he'
      rw [if_pos rfl]
      exact ⟨hkv.mono hg'.S hg'.cell hg'.blk,hx.mono hg'⟩
    ·simp [Instr.mapUpdate,run_underlying m1,MapKept.run_getObj_map b1,hck,hfk,MapKept.run_setObj_map _ b1]
   ·have hil:i<es.length:=(List.getElem?_eq_some_iff.1 hkey).1
    refine fin (Jot es i (s.ev k,xss)) (fun j=>if j=i then t' else tk j) (arr.modify i fun e=>{ e with key:=a.eval k,val:=a.eval x }) clock (by simp [Jot,hil,b2']) (fun g' hg' j e m he' hm'=>?_) ?_
    ·unfold Jot at he'
     rw [if_pos hil,List.getElem?_set] at he'
     rw [Array.getElem?_modify] at hm'
     by_cases hij:i=j
     ·subst hij
      rw [if_pos rfl,if_pos hil] at he'
      rw [if_pos rfl,h3] at hm'
      cases he'; cases hm'
      simp only [if_true]
      exact ⟨hkv.mono hg'.S hg'.cell hg'.blk,hx.mono hg'⟩
     ·rw [if_neg hij] at he' hm'
      obtain ⟨q1,q2⟩:=b3 j e m he' hm'
      rw [if_neg (fun e=>hij e.symm)]
      exact ⟨q1.mono hg'.S hg'.cell hg'.blk,q2.mono hg'⟩
    ·have hks:(Instr.keyThatStays (((arr[i]?).map (·.key)).getD (a.eval k)) (a.eval k)).run P g.w=.ok (a.eval k) g.w:=by
      rw [h3]
      simp only [Option.map_some,Option.getD_some,h4]
      exact Jgf hd hkv
     simp [Instr.mapUpdate,run_underlying m1,MapKept.run_getObj_map b1,hck,hfk,hks,MapKept.run_setObj_map _ b1]
  ·cases he
 ·cases he
theorem Jj2 (h:Kw Gl S0 w0 s a g) (o:Oper) {t:TypeId} {m k x:Operand} {l:Nat} {es es':List (PV×PV)} {d:TypeDesc} {z dv:PV} (hop:o.op=.mapUpdate t m k x) (hm:s.ev m=.mp l) (hH:s.H l=some (.map es))
  (hkd:Tn P t=some (d,z)) (hdv:Fj (s.ev x)=some dv) (hd:Cx d (s.ev k)=true) (hf:Nm dv=true) (hp:Jbw (s.ev k) dv es=some es') :
  Jh1 P o a g.w (fun a' w'=>Inv Gl S0 w0 (({ s with H:=upd s.H l (some (.map es')) }:PSt).put o.dst .any) a' w'):=by
 have hgl:g.H l=some (.map es):=by rw [h.hH]; exact hH
 obtain ⟨o1,o2,o3,arr,clock,b1,b2⟩:=h.objs l _ hgl
 obtain ⟨kt,et,m1,m2,m3,m4,m5⟩:=Ot hkd
 have hmx:a.eval m=.map (some (g.φ l)):=by have:=h.ev m; rw [hm] at this; exact this.1
 have hk:=h.ev k
 have hkv:Kh g.S g.w (s.ev k) (a.eval k):=by
  revert hk hd
  cases s.ev k <;> intro hd hk <;> first|exact hk|(cases d <;> simp [Cx] at hd; done)|skip
  cases d <;> simp only [Cx] at hd <;> try cases hd
  obtain ⟨x,y,e⟩:=Dk hd
  rw [e] at hk ⊢
  exact Jdh hk
 have hx:Kh g.S g.w dv (a.eval x):=Jde ((h.ev x).relA hdv) hdv
 have hc:=Gy (P:=P) (w:=g.w) m2 m5 hd hkv false
 have fin:∀ o':Obj,∀ arr' clock',o'=.map arr' clock'→(∀ g':GG,GLe g g'→Kv (Jf0 g'.S g'.w) es' arr'.toList)→(Instr.mapUpdate t (.map (some (g.φ l))) (a.eval k) (a.eval x)).run P g.w=.ok () { g.w with heap:=g.w.heap.setIfInBounds (g.φ l) o' } →
   Jh1 P o a g.w (fun a' w'=>Inv Gl S0 w0 (({ s with H:=upd s.H l (some (.map es')) }:PSt).put o.dst .any) a' w'):=by
  intro o' arr' clock' ho' hall hrun
  subst ho'
  obtain ⟨hs1,hs2⟩:=MapKept.heap_set (o':=.map arr' clock') b1
  obtain ⟨h2,e2⟩:=h.setObj (l:=l) (ob':=.map es') (w':={ g.w with heap:=g.w.heap.setIfInBounds (g.φ l) (.map arr' clock') }) hgl
   ⟨rfl,rfl,rfl,by simp,fun r hr=>hs2 r hr,rfl⟩ (fun cs e=>by cases e) (fun g' hg' hw'=>⟨arr',clock',by rw [hw']; exact hs1,hall g' hg'⟩)
  refine .inr ⟨_, ?_,⟨_,rfl,h2.put _ (Rel.any _ _)⟩⟩
  simp [execOp,hop,hmx,hrun]
 have up:∀ g':GG,GLe g g'→Kv (Jf0 g'.S g'.w) es arr.toList:=fun g' hg'=>b2.mono fun _ _ q=>⟨q.1.mono hg'.S hg'.cell hg'.blk,q.2.1.mono hg'.S hg'.cell hg'.blk,q.2.2⟩
 have new:∀ g':GG,GLe g g'→∀ b,Jf0 g'.S g'.w (s.ev k,dv) ({ key:=a.eval k,val:=a.eval x,born:=b }:MapEntry):=fun g' hg' b=>⟨hkv.mono hg'.S hg'.cell hg'.blk,hx.mono hg'.S hg'.cell hg'.blk,hf⟩
 rcases Jlr (P:=P) m2 m5 hd hkv b2 hp with ⟨rfl,hfk⟩|⟨j,m',hfk,h3,h4,rfl⟩
 ·refine fin _ (arr.push { key:=a.eval k,val:=a.eval x,born:=clock }) (clock+1) rfl (fun g' hg'=>?_) ?_
  ·rw [Array.toList_push]
   exact (up g' hg').append (.cons (new g' hg' clock) .nil)
  ·simp [Instr.mapUpdate,run_underlying m1,MapKept.run_getObj_map b1,hc,hfk,MapKept.run_setObj_map _ b1]
 ·have h3':arr[j]? = some m':=by simpa using h3
  refine fin _ (arr.modify j fun e=>{ e with key:=a.eval k,val:=a.eval x }) clock rfl (fun g' hg'=>?_) ?_
  ·refine ⟨by simp [(up g' hg').1],fun i p q hp' hq=>?_⟩
   have hj:j<arr.size:=(Array.getElem?_eq_some_iff.1 h3').1
   rw [List.getElem?_set] at hp'
   rw [Array.getElem?_toList,Array.getElem?_modify] at hq
   by_cases hij:j=i
   ·subst hij
    rw [if_pos rfl] at hp' hq
    rw [h3'] at hq
    split at hp'
    ·cases hp'; cases hq
     exact new g' hg' m'.born
    ·cases hp'
   ·rw [if_neg hij] at hp' hq
    exact (up g' hg').2 i p q hp' (by simpa using hq)
  ·have hks:(Instr.keyThatStays (((arr[j]?).map (·.key)).getD (a.eval k)) (a.eval k)).run P g.w=.ok (a.eval k) g.w:=by
    rw [h3']
    simp only [Option.map_some,Option.getD_some,h4]
    exact Jgf hd hkv
   simp [Instr.mapUpdate,run_underlying m1,MapKept.run_getObj_map b1,hc,hfk,hks,MapKept.run_setObj_map _ b1]
end
end PM
/-
 THE PURE MACHINE, K: append.
-/
namespace PM
open Go Go.RowKit
section
variable {P:Program} {Gl:Nat→Option (List PV)} {S0:Bs} {w0:World} {s:PSt} {a:Act} {g:GG} {w:World}
/-- What a list of data is in memory. -/
theorem Jak {S:Qj} {k b:Nat} {xss:List (List PV)} {v:Value} (h:Kh S w (.lst .frozen k b xss) v) :
  ∃ base cap,v=.slice base xss.length cap∧xss.length≤cap∧(∀ cs∈xss,cs.length=k)∧(base=none→cap=0∧xss=[]) ∧
   ∃ vs:List Value,vs.length=xss.length * k∧Kv (fun p v=>Kh S w p v∧p.one=true) xss.flatten vs∧(∀ v∈vs,v.oneCell'=true) ∧
    ∀ B off,base=some ⟨B,off,none⟩→Wh S w k xss B off∧(∀ j u,vs[j]? = some u→w.cell? ⟨B,off+j,none⟩=some u):=by
 simp only [Kh] at h
 obtain ⟨_,_,_,⟨rfl|⟨ad,rfl⟩,rfl⟩|⟨B,off,cap,rfl,h2,_,h3⟩⟩:=h
 ·exact ⟨none,0,rfl,Nat.le_refl _,by simp,fun _=>⟨rfl,rfl⟩,[],by simp,.nil,by simp,fun B off e=>by cases e⟩
 ·exact ⟨some ad,0,rfl,Nat.le_refl _,by simp,fun e=>(by cases e),[],by simp,.nil,by simp,fun B off _=>⟨by simp [Wh],fun j u hu=>by simp at hu⟩⟩
 ·obtain ⟨c1,c2⟩:=h3.cells
  obtain ⟨vs,v1,v2,v3⟩:=c1.values
  refine ⟨some ⟨B,off,none⟩,cap,rfl,h2,fun cs hcs=>?_,fun e=>(by cases e),vs,by rw [← v1.1,c2],⟨v1.1,fun i x y hx hy=>⟨v1.2 i x y hx hy,((Wf _ _ _).1 c1 i x hx).1⟩⟩,v3,fun B' off' e=>?_⟩
  ·obtain ⟨i,hi⟩:=List.getElem?_of_mem hcs
   exact ((Pu k xss B off).1 h3 i cs hi).1
  ·cases e; exact ⟨h3,v2⟩
/-- The list that is appended to. -/
structure Base (g:GG) (t k b:Nat) (xss:List (List PV)) (v:Value):Prop where
 data:Kh g.S g.w (.lst .frozen k b xss) v
 tok:(g.T t=none∧(∀ base cap,v=.slice base xss.length cap→cap=xss.length))∨(g.T t=some (xss.length,k)∧v=g.hd t)
theorem Jli : Qi=140737488351232:=rfl
theorem Jat {g':GG} {t k b:Nat} {xss:List (List PV)} {v:Value} (h:Kh g'.S g'.w (.lst .frozen k b xss) v) (hT:g'.T t=some (xss.length,k)) (hh:g'.hd t=v):Rel g' (.lst (.own t) k b xss) v :=
 by simp only [Rel,Qb,Kx]; exact ⟨h,xss.length,hT,Nat.le_refl _,fun _=>hh.symm⟩
theorem Jp8 (h:Kw Gl S0 w0 s a g) {ty t t' e tk k b:Nat} {xss yss:List (List PV)} {v u:Value} (hk:Jed P t=some (e,k,b)) (ht':Ia P t'=true) (hb:Base g tk k b xss v) {b':Nat} (hy:Kh g.S g.w (.lst .frozen k b' yss) u)
  (hs1:(xss.length+yss.length) * b≤Qi) (hs2:xss.length+yss.length≤Qi) :
  ∃ v' g',(Builtin.append_ #[t,t'] ty #[v,u]).run P g.w=.ok v' g'.w∧Kw Gl S0 w0 { s with T:=upd s.T tk (some (xss.length+yss.length,k)) } a g'∧Rel g' (.lst (.own tk) k b (xss++yss)) v':=by
 rw [Jli] at hs1 hs2
 obtain ⟨i,z,k1,k2,k3,k4,k5,k6,k7⟩:=Lf hk
 have hX:s.X tk=none:=h.noX fun n e=>by
  rcases hb.tok with ⟨q,_⟩|⟨q,_⟩
  ·rw [q] at e; cases e
  ·rw [q] at e; cases e; exact k7 rfl
 obtain ⟨e',ht2⟩:=Gm ht'
 obtain ⟨base,cap,rfl,x1,x2,x3,olds,o1,o2,o3,o4⟩:=Jak hb.data
 obtain ⟨ybase,ycap,rfl,y1,y2,y3,news,n1,n2,n3,n4⟩:=Jak hy
 -- the source
 have hsrc:Src P i.size t' (.slice ybase yss.length ycap) yss.length news g.w:=by
  cases ybase with
  | none =>
   obtain ⟨q1,q2⟩:=y3 rfl
   subst q2
   subst q1
   have hn0:news=[]:=List.eq_nil_of_length_eq_zero (by simpa using n1)
   rw [hn0]
   exact Src.ofNil g.w ht2 0
  | some ad =>
   have hcase:(yss=[]∧news=[])∨∃ B off,ad=⟨B,off,none⟩:=by
    have:=hy
    simp only [Kh] at this
    obtain ⟨_,_,_,⟨_,q⟩|⟨B,off,_,q,_⟩⟩:=this
    ·subst q; exact .inl ⟨rfl,List.eq_nil_of_length_eq_zero (by simpa using n1)⟩
    ·exact .inr ⟨B,off,by simp only [Value.slice.injEq,Option.some.injEq] at q; exact q.1⟩
   rcases hcase with ⟨q1,q2⟩|⟨B,off,rfl⟩
   ·subst q1; subst q2
    exact Src.ofSlice g.w ht2 _ _ _ [] (by simp) (fun j u hu=>by simp at hu) (fun u hu=>by cases hu)
   ·exact Src.ofSlice g.w ht2 _ _ _ news (by rw [n1,k3]) (fun j u hu=>by rw [Addr.add_mid]; exact (n4 B off rfl).2 j u hu) n3
 have hbase:(cap=0∧xss=[])∨∃ B off,base=some ⟨B,off,none⟩:=by
  have:=hb.data
  simp only [Kh] at this
  obtain ⟨_,_,_,⟨q,q2⟩|⟨B,off,_,q,_⟩⟩:=this
  ·exact .inl ⟨(q.slice rfl).2,q2⟩
  ·exact .inr ⟨B,off,by injection q⟩
 have hall:∀ cs∈xss++yss,cs.length=k:=fun cs hcs=>(List.mem_append.1 hcs).elim (x2 cs) (y2 cs)
 have hlen:(xss++yss).length=xss.length+yss.length:=List.length_append
 by_cases hroom:xss.length+yss.length≤cap
 ·by_cases hm:yss=[]
  · -- nothing is appended
   subst hm
   have hnews:news=[]:=List.eq_nil_of_length_eq_zero (by simpa using n1)
   subst hnews
   have hrun:(Builtin.append_ #[t,t'] ty #[.slice base xss.length cap,.slice ybase ([]:List (List PV)).length ycap]).run P g.w=.ok (.slice base xss.length cap) g.w:=by
    rcases hbase with ⟨hc0,hx⟩|⟨B,off,rfl⟩
    ·subst hx
     subst hc0
     have hcl:=hsrc.cells
     simp only [List.length_nil] at hcl
     cases base <;> simp [Builtin.append_,run_underlying k1,run_underlying ht2,Go.sizeOf,typeInfo,k2,Builtin.lenOf,hcl,storeCells]
    ·have:=run_append_room_src g.w t t' ty e i k1 k2 B off xss.length cap _ _ [] hsrc (by simpa using x1) (by simp) (by simp)
     simpa [World.setCells] using this
   simp only [List.append_nil,List.length_nil,Nat.add_zero]
   rcases hb.tok with ⟨ht0,hfull⟩|⟨ht0,hv⟩
   ·have hcap:=hfull base cap rfl
    obtain ⟨h2,g2⟩:=h.setTok (t:=tk) (n:=xss.length) (k:=k) (v:=.slice base xss.length cap) (fun n0 k0 e=>by rw [ht0] at e; cases e) k7
     (fun g' hw' hS' hhd=>by
      rcases hbase with ⟨q1,q2⟩|⟨B,off,rfl⟩
      ·subst q1; subst q2
       refine .inl ⟨?_,rfl⟩
       rw [hhd]
       cases base with
       | none=>exact .inl rfl
       | some ad=>exact .inr ⟨ad,rfl⟩
      ·exact .inr ⟨B,off,cap,hhd,x1,fun hlt=>by rcases hlt with q|⟨q,_⟩ <;> omega⟩)
     (fun B off c e hlt=>by cases e; rcases hlt with q|⟨q,_⟩ <;> omega) hX
    exact ⟨_,{ g with hd:=fun x=>if x=tk then .slice base xss.length cap else g.hd x,T:=upd g.T tk (some (xss.length,k)) },hrun,h2,Jat (hb.data.mono g2.S g2.cell g2.blk) (by simp [upd]) (by simp)⟩
   ·have hs:({ s with T:=upd s.T tk (some (xss.length,k)) }:PSt)=s:=by
     have:upd s.T tk (some (xss.length,k))=s.T:=by
      funext x
      by_cases hx:x=tk
      ·subst hx; rw [Qc,← h.hT,ht0]
      ·rw [Kr _ _ _ _ hx]
     rw [this]
    rw [hs]
    exact ⟨_,g,hrun,h,Jat hb.data ht0 hv.symm⟩
  · -- in place
   have hmpos:0<yss.length:=List.length_pos_iff.2 hm
   rcases hb.tok with ⟨ht0,hfull⟩|⟨ht0,hv⟩
   ·have:=hfull base cap rfl; omega
   ·rcases hbase with ⟨hc0,_⟩|⟨B,off,rfl⟩
    ·omega
    ·have hsp:Vp g tk B:=⟨xss.length,k,off,cap,ht0,hv.symm,.of_lt (by omega)⟩
     have hthere:g.w.there B (off+xss.length * k) ((cap - xss.length) * k):=by
      rcases h.owns tk _ _ ht0 with ⟨q,_⟩|⟨B',off',cap',q,_,hr⟩
      ·have:=(q.slice hv.symm).2; omega
      ·rw [q] at hv; cases hv
       intro j hj
       have hck:cap * k=xss.length * k+(cap - xss.length) * k:=by rw [← Nat.add_mul]; congr 1; omega
       have:=(hr (.of_lt (by omega))).2.2.1 (xss.length * k+j) (by omega)
       rwa [← Nat.add_assoc] at this
     have hmk:yss.length * k≤(cap - xss.length) * k:=Nat.mul_le_mul_right _ (by omega)
     have hrun:=run_append_room_src g.w t t' ty e i k1 k2 B off xss.length cap _ _ news hsrc hroom (fun j hj=>by rw [k3]; exact (hthere j (by omega)).1) (fun j hj=>by rw [k3]; exact (hthere j (by omega)).2)
     rw [k3] at hrun
     obtain ⟨h2,g2⟩:=h.tokRoom ht0 hv.symm hmpos hroom n1 k7 hX
     refine ⟨_,{ g with w:=g.w.setCells B (off+xss.length * k) news,S:=fun b o=>g.S b o∨(b=B∧off+xss.length * k≤o∧o<off+(xss.length+yss.length) * k),hd:=fun x=>if x=tk then .slice (some ⟨B,off,none⟩) (xss.length+yss.length) cap else g.hd x,T:=upd g.T tk (some (xss.length+yss.length,k)) },hrun,h2,Jat ?_ (by rw [hlen]; simp [upd]) (by simp)⟩
     have hx:=o4 B off rfl
     simp only [Kh]
     rw [hlen]
     refine ⟨hs1,hs2,by simp,.inr ⟨B,off,cap,rfl,hroom,by simp, ?_⟩⟩
     have hcellNew:∀ j u,news[j]? = some u→(g.w.setCells B (off+xss.length * k) news).cell? ⟨B,off+xss.length * k+j,none⟩=some u:=fun j u hu=>by
      have hj:j<news.length:=(List.getElem?_eq_some_iff.1 hu).1
      rw [World.cell?_setCells_in B news _ g.w (fun i hi=>(hthere i (by omega)).1) j hj,← hu,List.getElem?_eq_getElem hj]
     refine Ys hall (vs:=olds++news) ?_ (fun j u hu=>?_) (fun j hj=>?_)
     ·rw [List.flatten_append]
      exact (o2.monoD g2.S g2.cell g2.blk).append (n2.monoD g2.S g2.cell g2.blk)
     ·rw [List.getElem?_append] at hu
      by_cases hj:j<olds.length
      ·rw [if_pos hj] at hu
       rw [World.cell?_setCells_out _ _ _ _ _ (fun _ _=>.inl (by show off+j<_; omega))]
       exact hx.2 j u hu
      ·rw [if_neg hj] at hu
       have:=hcellNew _ u hu
       rwa [show off+xss.length * k+(j - olds.length)=off+j by omega] at this
     ·rw [List.length_append] at hj
      by_cases hj2:j<xss.length * k
      ·have hcells:=(Wf _ _ _).1 hx.1.cells.1
       have hfl:j<xss.flatten.length:=by rw [hx.1.cells.2]; exact hj2
       exact .inl (hcells j _ (List.getElem?_eq_getElem hfl)).2.1
      ·refine .inr ⟨rfl,by omega, ?_⟩
       rw [Nat.add_mul]; omega
 · -- a new block
  have hmpos:0<yss.length:=by omega
  have hneed:xss.length+yss.length≤grownCap g.w (xss.length+yss.length) cap e:=grownCap_ge _ _ _ _
  have holds:(Builtin.firstCells i.size xss.length (.slice base xss.length cap)).run P g.w.drew=.ok olds.toArray g.w.drew:=by
   rcases hbase with ⟨_,q2⟩|⟨B,off,rfl⟩
   ·have:olds=[]:=List.eq_nil_of_length_eq_zero (by rw [o1,q2]; simp)
    rw [this,q2]
    cases base with
    | none=>exact run_firstCells_none g.w.drew _ _ _ _
    | some ad=>exact run_firstCells_some g.w.drew i.size 0 ad _ _ [] (by simp) (fun j u hu=>by simp at hu)
   ·exact run_firstCells_some g.w.drew i.size xss.length _ _ _ olds (by rw [o1,k3]) (fun j u hu=>by rw [Addr.add_mid]; simpa using (o4 B off rfl).2 j u hu)
  have hrun:=run_append_grow_src g.w t t' ty e i z k1 k2 k5 base xss.length cap olds holds _ _ news hsrc (by omega) (by omega) (growslice_fits (by omega) (by rw [k4]; omega))
  generalize hC:grownCap g.w (xss.length+yss.length) cap e=C at *
  generalize hA:((olds++news).toArray++Builtin.zeroCells z.cells (C - (xss.length+yss.length)))=arr at *
  have harr:arr.size=C * k:=by
   rw [← hA]
   have h1:(olds++news).length=(xss.length+yss.length) * k:=by rw [List.length_append,o1,n1,Nat.add_mul]
   have h2:C=(xss.length+yss.length)+(C - (xss.length+yss.length)):=by omega
   rw [Array.size_append,List.size_toArray,size_zeroCells,k6,h1,← Nat.add_mul]
   congr 1
   omega
  have hdrew:=h.drew
  obtain ⟨h1,g1⟩:=hdrew
  obtain ⟨h2,g2⟩:=h1.newRow arr e ((xss.length+yss.length) * k)
  obtain ⟨h3,g3⟩:=h2.setTok (t:=tk) (n:=xss.length+yss.length) (k:=k) (v:=.slice (some ⟨g.w.heap.size,0,none⟩) (xss.length+yss.length) C)
   (fun n0 k0 e=>by
    rcases hb.tok with ⟨ht0,_⟩|⟨ht0,_⟩
    ·have:g.T tk=some (n0,k0):=e
     rw [ht0] at this; cases this
    ·have:g.T tk=some (n0,k0):=e
     rw [ht0] at this; cases this
     exact ⟨rfl,by omega⟩) k7
   (fun g' hw' hS' hhd=>.inr ⟨g.w.heap.size,0,C,hhd,hneed,fun hlt=>by
    rw [hw',hS']
    refine ⟨fun _=>h.below.size,by simp,fun j hj=>?_,fun _ o ho=>?_⟩
    ·have:=Ml g.w.drew arr e j (by rw [harr]; exact hj)
     simpa using this
    ·rcases ho with ho|⟨_,ho⟩
     ·have:=h.lt _ _ ho; omega
     ·simpa using ho⟩)
   (fun B off c q hlt=>by
    cases q
    refine ⟨fun t' ht'=>h.spare_lt t' (ht'.congr rfl rfl),fun l hl=>h.phi_lt l hl,fun t' ht'=>h.xb_lt t' (ht'.congr rfl)⟩) hX
  refine ⟨_,{ g with w:=g.w.drew.alloc (.cells arr e),S:=fun b o=>g.S b o∨(b=g.w.drew.heap.size∧o<(xss.length+yss.length) * k),hd:=fun x=>if x=tk then .slice (some ⟨g.w.heap.size,0,none⟩) (xss.length+yss.length) C else g.hd x,T:=upd g.T tk (some (xss.length+yss.length,k)) },hrun,h3,Jat ?_ (by rw [hlen]; simp [upd]) (by simp)⟩
  have gle:=(g1.trans g2).trans g3
  simp only [Kh]
  rw [hlen]
  refine ⟨hs1,hs2,by simp,.inr ⟨g.w.heap.size,0,C,rfl,hneed,by simp, ?_⟩⟩
  refine Ys hall (vs:=olds++news) ?_ (fun j u hu=>?_) (fun j hj=>.inr ⟨rfl, ?_⟩)
  ·rw [List.flatten_append]
   exact (o2.monoD gle.S gle.cell gle.blk).append (n2.monoD gle.S gle.cell gle.blk)
  ·have:=Ef g.w.drew arr e j u (by
    rw [← hA]
    have hj:j<(olds++news).length:=(List.getElem?_eq_some_iff.1 hu).1
    simp only [Array.toList_append]
    rw [List.getElem?_append_left hj]
    exact hu)
   simpa using this
  ·rw [List.length_append,o1,n1] at hj
   rw [Nat.add_mul]
   omega
/-- A made list without elements, with room for some. -/
theorem Jk2 (h:Kw Gl S0 w0 s a g) (o:Oper) {t e:TypeId} {n c:Operand} {k b d:Nat} {kn kc:IntKind} {m:Int} (hop:o.op=.makeSlice t n c) (hk:Jed P t=some (e,k,b)) (hT:s.T d=none)
  (hn:s.ev n=.int kn 0) (hc:s.ev c=.int kc m) (h0:0≤m) (h1:m.toNat * b≤Qi) (h2:m.toNat≤Qi) :
  Jh1 P o a g.w (fun a' w'=>Inv Gl S0 w0 (({ s with T:=upd s.T d (some (0,k)) }:PSt).put o.dst (.lst (.own d) k b [])) a' w'):=by
 obtain ⟨i,z,k1,k2,k3,k4,k5,k6,k7⟩:=Lf hk
 have hnv:=h.ev n
 rw [hn,Uo] at hnv
 have hcv:=h.ev c
 rw [hc,Uo] at hcv
 have hm:((m.toNat:Nat):Int)=m:=by omega
 unfold Qi at h1 h2
 have hb':(i.bytes:Int) * m≤281474976710656:=by
  rw [k4,← hm,← Int.natCast_mul]
  have:=Nat.mul_comm m.toNat b
  omega
 have hrun:=run_make (P:=P) g.w t e i z k1 k2 k5 kn kc 0 m (Int.le_refl _) h0 hb' (by omega)
 simp only [Int.toNat_zero] at hrun
 have hsz:(madeCells z.cells (m.toNat * i.size)).size=m.toNat * k:=by rw [size_madeCells,k3]
 obtain ⟨h3,g3⟩:=h.newRow (madeCells z.cells (m.toNat * i.size)) e 0
 have hTd:g.T d=none:=by rw [h.hT]; exact hT
 obtain ⟨h4,g4⟩:=h3.setTok (t:=d) (n:=0) (k:=k) (v:=.slice (some ⟨g.w.heap.size,0,none⟩) 0 m.toNat) (fun n0 k0 e=>by have:g.T d=some (n0,k0):=e; rw [hTd] at this; cases this) k7
  (fun g' hw' hS' hhd=>.inr ⟨g.w.heap.size,0,m.toNat,hhd,Nat.zero_le _,fun hlt=>by
   rw [hw',hS']
   refine ⟨fun _=>h.below.size,by simp,fun j hj=>?_,fun _ o ho=>?_⟩
   ·have:=Ml g.w (madeCells z.cells (m.toNat * i.size)) e j (by rw [hsz]; exact hj)
    simpa using this
   ·rcases ho with ho|⟨_,ho⟩
    ·have:=h.lt _ _ ho; omega
    ·omega⟩)
  (fun B off c q hlt=>by
   cases q
   exact ⟨fun t' ht'=>h.spare_lt t' (ht'.congr rfl rfl),fun l hl=>h.phi_lt l hl,fun t' ht'=>h.xb_lt t' (ht'.congr rfl)⟩) (h.noX fun n e=>by rw [hTd] at e; cases e)
 refine .inl ⟨.slice (some ⟨g.w.heap.size,0,none⟩) 0 m.toNat,_, ?_,⟨_,rfl,h4.put _ ?_⟩⟩
 ·simp [execOp,hop,hnv,hcv,hrun]
 ·simp only [Rel,Qb,Kx,Kh,List.length_nil]
  refine ⟨⟨by simp,by simp,.inl trivial,.inr ⟨g.w.heap.size,0,m.toNat,rfl,Nat.zero_le _,fun e=>(by cases e),trivial⟩⟩,0,Qc _ _ _,Nat.le_refl _,fun _=>by simp⟩
end
end PM
/-
 THE PURE MACHINE, L: one step; calls by contract (PCall); a region's operations in the order of the text.
-/
namespace PM
open Go Go.RowKit
/-- Does the operation touch memory of the call's own (beyond reading it)? -/
def Yz : Op→Bool
 | .alloc _|.box _ _|.store _ _ _|.buildSlice _ _ _|.makeMap _ _|.mapUpdate _ _ _ _|.makeSlice _ _ _=>true
 | .call c=>match c.callee with|.builtin .append=>true|_=>false
 | _=>false
/-- A call of a function value. -/
def Vi : Op→Option (Operand×List Operand)
 | .call c=>match c.callee with|.value f=>some (f,c.args.toList)|_=>none
 | _=>none
def evO (P:Program) (Gl:Nat→Option (List PV)) (dst:Option Nat) (op:Op) (ρ:Operand→PV) (H:Nat→Option Qv) (T:Nat→Option (Nat×Nat)) (X:XT):Option (PV×Eff) :=
 if Yz op=true then evE P dst op ρ H T X else (ev1 P Gl op ρ H X).map fun v=>(v,.none)
def Jlu : PV→List (Nat×(Nat×Nat))
 | .lst (.own t) k _ xss=>[(t,(xss.length,k))]
 | _=>[]
def Jl3 : PV→List (Nat×(Nat×Nat))
 | .agg cs=>cs.flatMap Jlu
 | p=>Jlu p
def Vw : PV→List (Nat×(Nat×Nat))
 | .tup vs=>vs.flatMap Jl3
 | p=>Jl3 p
/-- The tokens of a result, renamed for the slot that it goes to. -/
def Jfn (d:Nat):PV→PV
 | .lst (.own t) k b xss=>.lst (.own (1000 * d+t)) k b xss
 | p=>p
def Jnp (d:Nat):PV→PV
 | .agg cs=>.agg (cs.map (Jfn d))
 | p=>Jfn d p
def Pd (d:Nat):PV→PV
 | .tup vs=>.tup (vs.map (Jnp d))
 | p=>Jnp d p
def addToks (d:Nat) (s:PSt):List (Nat×(Nat×Nat))→PSt
 | []=>s
 | (t,x)::r=>addToks d { s with T:=upd s.T (1000 * d+t) (some x) } r
/-- The tokens are free, and none comes twice. -/
def Zp (d:Nat) (T:Nat→Option (Nat×Nat)):List (Nat×(Nat×Nat))→Prop
 | []=>True
 | (t,x)::r=>T (1000 * d+t)=none∧((r.all fun y=>y.1 != t)&&x.2 != 0)=true∧Zp d T r
def Jpy (P:Program) (f:FuncId):Prop:=∃ fn,P.funcs[f]? = some fn∧(fn.name == "runtime.NumGoroutine")=false∧fn.body.isNone=false
/-- What a call leaves: a value, in memory that only grew. -/
structure Bz (S:Qj) (w:World) (r:PV) (v:Value) (g':GG):Prop where
 below:Hk w.heap.size w g'.w
 sub:∀ B o,S B o→g'.S B o
 new:∀ B o,g'.S B o→S B o∨(w.heap.size≤B∧B<g'.w.heap.size)
 H:∀ l,g'.H l=none
 T:∀ t n k,g'.T t=some (n,k)↔(t,(n,k))∈Vw r
 rel:Rel g' r v
 owns:∀ t n k,g'.T t=some (n,k)→Jf7 g' w.heap.size t n k
 ownsEx:∀ t t' B,Vp g' t B→Vp g' t' B→t=t'
/-- A CONTRACT: called with these data, the function returns that. -/
def Kj (P:Program) (Gl:Nat→Option (List PV)) (f:FuncId) (args:List PV) (r:PV):Prop :=
 Jpy P f∧∀ (S:Qj) (w:World) (vs:Array Value),(∀ B o,S B o→B<w.heap.size)→(∀ i cs,Gl i=some cs→Ck S w cs i)→Kv (Kh S w) args vs.toList →
  Calls P f vs w fun e w'=>∃ v g',e=.returned v∧g'.w=w'∧Bz S w r v g'
section
variable {P:Program} {Gl:Nat→Option (List PV)} {S0:Bs} {w0:World} {s:PSt} {a:Act} {g:GG} {w:World}
theorem Jvj (h:Kw Gl S0 w0 s a g) (o:Oper) {x:PV×Eff} (he:evE P o.dst o.op s.ev s.H s.T s.X=some x):Jh1 P o a g.w (fun a' w'=>Inv Gl S0 w0 ((x.2.app s).put o.dst x.1) a' w'):=by
 unfold evE at he
 split at he
 ·rename_i t hop
  split at he
  ·rename_i d z hd hzk
   split at he
   ·rename_i hc
    cases he
    obtain ⟨hc1,hc2⟩:=hc
    simp only [Bool.and_eq_true,decide_eq_true_eq] at hc1
    exact Jq3 h o hop hzk (by simpa using hc1.1) hc1.2 hc2
   ·cases he
  ·cases he
 ·rename_i t x hop
  split at he
  ·rename_i d hd
   split at he
   ·rename_i hc
    cases he
    obtain ⟨hc1,hc2⟩:=hc
    simp only [Bool.and_eq_true,decide_eq_true_eq] at hc1
    exact Jur h o hop (by simpa using hc1.1) hc1.2 hc2
   ·cases he
  ·cases he
 ·rename_i t x y hop
  split at he
  ·rename_i l off hx
   split at he
   ·rename_i cs r n hl ht
    split at he
    ·rename_i hc
     cases he
     exact Jro h o hop hx hl ht hc.1 hc.2.1 hc.2.2
    ·cases he
   ·cases he
  ·rename_i tk k N j off hx
   split at he
   ·rename_i k' b xss r n ds hX ht hd
    split at he
    ·rename_i hc
     obtain ⟨c0,rfl,c3,c4⟩:=hc
     have c1:Ic (s.ev _)=true:=(Bool.and_eq_true_iff.1 c0).1
     obtain ⟨cs,hcs,hl⟩:=Option.bind_eq_some_iff.1 he
     split at hl
     ·rename_i ho
      cases hl
      exact Jp9 h o hop hx hX c3 ht c1 hd c4 hcs ho
     ·cases hl
    ·cases he
   ·cases he
  ·cases he
 ·rename_i t n parts hop
  split at he
  ·rename_i e k b xss hk hx
   split at he
   ·rename_i hc
    cases he
    rw [hk] at hx
    exact Jjh h o hop hk hx hc.1 hc.2.1 hc.2.2
   ·cases he
  ·cases he
 ·rename_i t r hop
  split at he
  ·rename_i d hd
   split at he
   ·rename_i hc
    cases he
    simp only [Bool.and_eq_true,decide_eq_true_eq] at hc
    exact Jnw h o hop (by simpa using hc.1) hc.2
   ·cases he
  ·cases he
 ·rename_i t n c hop
  split at he
  ·rename_i e k b d kn n0 kc m hk hd hn hc
   split at he
   ·rename_i h1
    obtain ⟨rfl,hT⟩:=h1
    split at he
    ·rename_i h2
     cases he
     exact Jk2 h o hop hk hT hn hc h2.1 h2.2.1 h2.2.2
    ·cases he
   ·cases he
  ·cases he
 ·rename_i t m k x hop
  split at he
  ·rename_i l hl
   split at he
   ·rename_i es d z dv h1 h2 h3
    split at he
    ·rename_i hc
     obtain ⟨es',hp,rfl⟩:=Option.map_eq_some_iff.1 he
     exact Jj2 h o hop hl h1 h2 h3 hc.1 hc.2 hp
    ·cases he
   ·rename_i es k' b tk d z dv h1 h2 h3
    exact Jtf h o hop hl h1 h2 he
   ·cases he
  ·cases he
 ·rename_i c hop
  split at he
  ·rename_i x y t t' h1 h2 h3
   have hxr:=h.ev x
   have hyr:=h.ev y
   unfold Mg at he
   split at he
   ·rename_i e k b d hk ht' hd
    split at he
    ·rename_i yss hys
     have hy:∃ b',Kh g.S g.w (.lst .frozen k b' yss) (a.eval y):=by
      unfold Jvc at hys
      split at hys
      ·rename_i hyn
       cases hys
       rw [hyn] at hyr
       exact ⟨0,Kh.ofNil k 0 (.inl rfl) hyr⟩
      ·rename_i oy k' b' yss' hyl
       split at hys
       ·rename_i hkk
        cases hys
        rw [hyl] at hyr
        rw [← hkk]
        exact ⟨b',Jg5 hyr⟩
       ·cases hys
      ·cases hys
     obtain ⟨b',hy⟩:=hy
     have fin:∀ (tk:Nat) (xss:List (List PV)),Base g tk k b xss (a.eval x)→(xss.length+yss.length) * b≤Qi→xss.length+yss.length≤Qi →
       Jh1 P o a g.w (fun a' w'=>Inv Gl S0 w0 (((Eff.tok tk (xss.length+yss.length) k).app s).put o.dst (.lst (.own tk) k b (xss++yss))) a' w'):=by
      intro tk xss hb q1 q2
      obtain ⟨v',g',r1,r2,r3⟩:=Jp8 (P:=P) (ty:=o.type) h hk ht' hb hy q1 q2
      refine .inl ⟨v',g'.w, ?_,⟨g',rfl,r2.put _ r3⟩⟩
      simp [execOp,hop,resolve,h1,Ld h2,Ld h3,invoke,builtin,r1]
     split at he
     ·rename_i hxn
      rw [hxn] at hxr
      split at he
      ·rename_i hT
       split at he
       ·rename_i hc
        cases he
        have hv:a.eval x=.slice none 0 0:=by simpa [Rel,Qb,Kx,Kh] using hxr
        have:=fin d [] ⟨Kh.ofNil k b (.inl rfl) (by rw [hv]; simp [Kh]),.inl ⟨by rw [h.hT]; exact hT,fun base cap e=>(by rw [hv] at e; cases e; rfl)⟩⟩ (by simpa using hc.1) (by simpa using hc.2)
        simpa using this
       ·cases he
      ·cases he
     ·rename_i k' b' xss hxl
      rw [hxl] at hxr
      split at he
      ·rename_i hT
       obtain ⟨rfl,rfl,hT⟩:=hT
       split at he
       ·rename_i hc
        cases he
        refine fin d xss ⟨Jg5 hxr,.inl ⟨by rw [h.hT]; exact hT,fun base cap e=>?_⟩⟩ hc.1 hc.2
        have hxr':Kh g.S g.w (.lst .full k' b' xss) (a.eval x):=hxr
        simp only [Kh] at hxr'
        obtain ⟨_,_,_,⟨q,q2⟩|⟨_,_,_,q,_,hf,_⟩⟩:=hxr'
        ·rw [(q.slice e).2,q2]; rfl
        ·rw [q] at e; injection e with e1 e2 e3; rw [← e3]; exact hf trivial
       ·cases he
      ·cases he
     ·rename_i tk k' b' xss hxl
      rw [hxl] at hxr
      split at he
      ·rename_i hT
       obtain ⟨rfl,rfl,hT⟩:=hT
       split at he
       ·rename_i hc
        cases he
        have hxr':Kx g (.lst (.own tk) k' b' xss) (a.eval x):=hxr
        simp only [Kx] at hxr'
        obtain ⟨q1,n,q2,q3,q4⟩:=hxr'
        have hT':g.T tk=some (xss.length,k'):=by rw [h.hT]; exact hT
        rw [hT'] at q2; cases q2
        exact fin tk xss ⟨q1,.inr ⟨hT',q4 rfl⟩⟩ hc.1 hc.2
       ·cases he
      ·cases he
     ·cases he
    ·cases he
   ·cases he
  ·cases he
 ·cases he
theorem Jmi {d:Nat} {T:Nat→Option (Nat×Nat)}:∀ {l:List (Nat×(Nat×Nat))},Zp d T l→∀ x∈l,T (1000 * d+x.1)=none
 | [],_,x,hx=>by cases hx
 | (t,y)::r,h,x,hx=>by
  rcases List.mem_cons.1 hx with rfl|hx
  ·exact h.1
  ·exact Jmi h.2.2 x hx
theorem Jkd {d:Nat} {T:Nat→Option (Nat×Nat)}:∀ {l:List (Nat×(Nat×Nat))},Zp d T l→∀ x∈l,x.2.2≠0
 | [],_,x,hx=>by cases hx
 | (t,y)::r,h,x,hx=>by
  rcases List.mem_cons.1 hx with rfl|hx
  ·have:=h.2.1
   simp only [Bool.and_eq_true] at this
   simpa using this.2
  ·exact Jkd h.2.2 x hx
/-- A result's tokens come into the caller's hands. -/
theorem Kw.addToks {d:Nat} {g':GG} {base:Nat} (hb:w0.heap.size≤base) (hown:∀ t n k,g'.T t=some (n,k)→Jf7 g' base t n k) (hex:∀ t t' B,Vp g' t B→Vp g' t' B→t=t')
  : ∀ (l:List (Nat×(Nat×Nat))) (s:PSt) (g:GG),Kw Gl S0 w0 s a g→g.w=g'.w→g.S=g'.S→(∀ x∈l,g'.T x.1=some x.2)→Zp d s.T l →
   (∀ t B,Vp g t B→B<base∨∃ t0,t=1000 * d+t0∧Vp g' t0 B∧∀ x∈l,x.1≠t0)→(∀ l',(g.H l').isSome=true→g.φ l'<base)→(∀ t B,XB s.X g t B→B<base) →
   ∃ g2,Kw Gl S0 w0 (PM.addToks d s l) a g2∧GLe g g2∧g2.w=g.w∧g2.S=g.S∧(∀ x∈l,g2.T (1000 * d+x.1)=some x.2∧g2.hd (1000 * d+x.1)=g'.hd x.1)∧(∀ t,(∀ x∈l,t≠1000 * d+x.1)→g2.T t=g.T t∧g2.hd t=g.hd t)
 | [],s,g,h,_,_,_,_,_,_,_=>⟨g,h,GLe.refl g,rfl,rfl,by simp,by simp⟩
 | (t,(n,k))::r,s,g,h,hw,hS,hT,hf,hsp,hφ,hxb=>by
  obtain ⟨f1,f2',f3⟩:=hf
  simp only [Bool.and_eq_true] at f2'
  obtain ⟨f2,fk⟩:=f2'
  have hk0:k≠0:=by simpa using fk
  have hX:s.X (1000 * d+t)=none:=h.noX fun n e=>by rw [h.hT,f1] at e; cases e
  have hgT:g'.T t=some (n,k):=hT (t,(n,k)) (by simp)
  have hok:=hown t n k hgT
  have hne:∀ x∈r,x.1≠t:=fun x hx=>by
   have:=List.all_eq_true.1 f2 x hx
   simpa using this
  obtain ⟨h2,g2⟩:=h.setTok (t:=1000 * d+t) (n:=n) (k:=k) (v:=g'.hd t) (fun n0 k0 e=>by rw [h.hT,f1] at e; cases e) hk0
   (fun gg e1 e2 e3=>by
    rcases hok with ⟨q1,q2⟩|⟨B,off,cap,q1,q2,q3⟩
    ·exact .inl ⟨by rw [e3]; exact q1,q2⟩
    ·refine .inr ⟨B,off,cap,by rw [e3]; exact q1,q2,fun hlt=>?_⟩
     obtain ⟨r1,r2,r3,r4⟩:=q3 hlt
     rw [e1,e2,hw,hS]
     exact ⟨fun q=>by have:=r1 q; omega,r2,r3,r4⟩)
   (fun B off cap e hlt=>by
    have hspt:Vp g' t B:=⟨n,k,off,cap,hgT,e,hlt⟩
    have hBb:base≤B:=by
     rcases hok with ⟨q1,_⟩|⟨B',off',cap',q1,_,q3⟩
     ·have:=(q1.slice e).2; have:=hlt.pos; omega
     ·rw [q1] at e; cases e; exact (q3 hlt).1 hk0
    refine ⟨fun t' ht'=>?_,fun l hl hBB=>?_,fun t' ht'=>by have:=hxb t' B ht'; omega⟩
    ·rcases hsp t' B ht' with q|⟨t0,_,q2,q3⟩
     ·omega
     ·exact q3 (t,(n,k)) (by simp) (hex t t0 B hspt q2)
    ·have:=hφ l hl; omega) hX
  have hfree:Zp d ({ s with T:=upd s.T (1000 * d+t) (some (n,k)) }:PSt).T r:=by
   have aux:∀ l:List (Nat×(Nat×Nat)),(∀ x∈l,x.1≠t)→Zp d s.T l→Zp d (upd s.T (1000 * d+t) (some (n,k))) l:=by
    intro l
    induction l with
    | nil=>intro _ _; trivial
    | cons x l ih =>
     intro q1 q2
     obtain ⟨tx,y⟩:=x
     have:tx≠t:=q1 (tx,y) (by simp)
     exact ⟨by rw [Kr _ _ _ _ (by omega)]; exact q2.1,q2.2.1,ih (fun x hx=>q1 x (by simp [hx])) q2.2.2⟩
   exact aux r hne f3
  obtain ⟨g3,k1,k2,k3,k4,k5,k6⟩:=Kw.addToks hb hown hex r _ _ h2 hw hS (fun x hx=>hT x (by simp [hx])) hfree
   (fun t' B hs'=>by
    obtain ⟨n',k',off',cap',e1,e2,e3⟩:=hs'
    by_cases ht':t'=1000 * d+t
    ·subst ht'
     have e1':upd g.T (1000 * d+t) (some (n,k)) (1000 * d+t)=some (n',k'):=e1
     rw [Qc] at e1'
     cases e1'
     simp only [if_true] at e2
     exact .inr ⟨t,rfl,⟨n,k,off',cap',hgT,e2,e3⟩,hne⟩
    ·have e1':upd g.T (1000 * d+t) (some (n,k)) t'=some (n',k'):=e1
     rw [Kr _ _ _ _ ht'] at e1'
     simp only [if_neg ht'] at e2
     rcases hsp t' B ⟨n',k',off',cap',e1',e2,e3⟩ with q|⟨t0,q1,q2,q3⟩
     ·exact .inl q
     ·exact .inr ⟨t0,q1,q2,fun x hx=>q3 x (by simp [hx])⟩) (fun l' hl'=>hφ l' hl') (fun t' B hx=>hxb t' B (by
    obtain ⟨x1,off',n',cap',x2⟩:=hx
    have hne':t'≠1000 * d+t:=fun e=>by rw [e] at x1; rw [hX] at x1; cases x1
    simp only [if_neg hne'] at x2
    exact ⟨x1,off',n',cap',x2⟩))
  refine ⟨g3,k1,g2.trans k2,k3,k4,fun x hx=>?_,fun t' ht'=>?_⟩
  ·rcases List.mem_cons.1 hx with rfl|hx
   ·have:=k6 (1000 * d+t) (fun x hx=>by have:=hne x hx; omega)
    rw [this.1,this.2]
    exact ⟨Qc _ _ _,by simp⟩
   ·exact k5 x hx
  ·have h0:=ht' (t,(n,k)) (by simp)
   have:=k6 t' (fun x hx=>ht' x (by simp [hx]))
   rw [this.1,this.2]
   exact ⟨Kr _ _ _ _ h0,by simp [show t'≠1000 * d+t from h0]⟩
end
/-! ### Lists that nobody else holds, read as data -/
def bd1 (ts:List Nat) (s:PSt):PV→Option (PV×List (Nat×Nat))
 | .ex t k b N o n=>match ts.contains t with
  | true=>match s.X t,s.T t with
   | some (k',b',xss),some (N',0)=>if k'=k∧b'=b then some (.lst .frozen k b xss,[(n,N'),(N,N'),(o,0)]) else none
   | _,_=>none
  | false=>none
 | p=>(Zj p).map fun q=>(q,[])
def bdL (ts:List Nat) (s:PSt):List PV→Option (List PV×List (Nat×Nat))
 | []=>some ([],[])
 | p::ps=>match bd1 ts s p,bdL ts s ps with
  | some a,some b=>some (a.1::b.1,a.2++b.2)
  | _,_=>none
def bdA (ts:List Nat) (s:PSt):PV→Option (PV×List (Nat×Nat))
 | .agg cs=>(bdL ts s cs).map fun x=>(.agg x.1,x.2)
 | p=>bd1 ts s p
def Xy (ts:List Nat) (s:PSt):List PV→Option (List PV×List (Nat×Nat))
 | []=>some ([],[])
 | p::ps=>match bdA ts s p,Xy ts s ps with
  | some a,some b=>some (a.1::b.1,a.2++b.2)
  | _,_=>none
section
variable {P:Program} {Gl:Nat→Option (List PV)} {S0:Bs} {w0:World} {s:PSt} {a:Act} {g:GG}
theorem Kw.borrow (h:Kw Gl S0 w0 s a g) (ts:List Nat):∃ S1:Qj,(∀ B o,g.S B o→S1 B o)∧(∀ B o,S1 B o→B<g.w.heap.size)∧(∀ i cs,Gl i=some cs→Ck S1 g.w cs i) ∧
  ∀ t,t∈ts→∀ k b xss,s.X t=some (k,b,xss)→∀ v,Ny (g.hd t) xss.length k 0 xss.length v→Kh S1 g.w (.lst .frozen k b xss) v:=by
 refine ⟨fun B o=>g.S B o∨∃ t k b xss n cap,t∈ts∧s.X t=some (k,b,xss)∧g.hd t=.slice (some ⟨B,0,none⟩) n cap∧0<cap∧o<xss.length * k,fun _ _ e=>.inl e, ?_,fun i cs e=>(h.glob i cs e).mono (fun _ _ q=>.inl q) (fun _ _ _=>rfl) (fun _ _=>rfl),fun t ht k b xss hx v hv=>?_⟩
 ·rintro B o (e|⟨t,k,b,xss,n,cap,_,hx,hh,hc,_⟩)
  ·exact h.lt B o e
  ·exact ((h.exs t k b xss hx).lt hh hc).1
 ·obtain ⟨q1,q2,q3,q4,q5,q6⟩:=h.exs t k b xss hx
  simp only [Kh]
  refine ⟨q4,q5,.inl trivial, ?_⟩
  rcases hv with ⟨e1,e2,_,_⟩|⟨B,cap,off,e1,e2,e3,e4,e5,e6⟩
  ·have hnil:xss=[]:=List.eq_nil_of_length_eq_zero e2
   rcases q6 with ⟨e,_⟩|⟨B,cap,e,hc,_⟩
   ·exact .inl ⟨by rw [e1]; exact e,hnil⟩
   ·exact .inr ⟨B,0,cap,by rw [e1,e],by rw [hnil]; exact Nat.zero_le _,fun q=>(by cases q),by rw [hnil]; simp [Wh]⟩
  ·have hoff:off=0:=by
    rcases e6 with e6|e6 <;> omega
   subst hoff
   rcases q6 with ⟨f,_⟩|⟨B',cap',f,hc,f1,f2,f3,f4,⟨vs,v1,v2⟩,_⟩
   ·have:=(f.slice e1).2; omega
   ·rw [f] at e1
    simp only [Value.slice.injEq,Option.some.injEq,Addr.mk.injEq,and_true,true_and] at e1
    obtain ⟨rfl,rfl⟩:=e1
    refine .inr ⟨B',0,cap' - 0,e5,by omega,fun q=>(by cases q), ?_⟩
    refine Ys q3 (vs:=vs) (v1.mono fun _ _ q=>⟨q.1.mono (fun _ _ q=>.inl q) (fun _ _ _=>rfl) (fun _ _=>rfl),q.2⟩) v2 (fun j hj=>.inr ⟨t,k,b,xss,_,cap',ht,hx,f,hc, ?_⟩)
    have hfl:xss.flatten.length=xss.length * k:=by
     rw [List.length_flatten]
     have:xss.map List.length=List.replicate xss.length k:=by
      rw [List.eq_replicate_iff]
      exact ⟨by simp,fun b hb=>by obtain ⟨x,hx,rfl⟩:=List.mem_map.1 hb; exact q3 x hx⟩
     rw [this]; simp
    have:=v1.1
    rw [hfl] at this
    omega
theorem Jou {l l':List (Nat×Nat)} (h:(l++l').map (·.1)=(l++l').map (·.2)):l.map (·.1)=l.map (·.2)∧l'.map (·.1)=l'.map (·.2):=by
 rw [List.map_append,List.map_append] at h
 exact List.append_inj h (by simp)
theorem Jpj (h:Kw Gl S0 w0 s a g) {ts:List Nat} {S1:Qj} (hS:∀ B o,g.S B o→S1 B o) (hb:∀ t,t∈ts→∀ k b xss,s.X t=some (k,b,xss)→∀ v,Ny (g.hd t) xss.length k 0 xss.length v→Kh S1 g.w (.lst .frozen k b xss) v)
  {p:PV} {q:PV×List (Nat×Nat)} {v:Value} (hr:Kx g p v) (hd:bd1 ts s p=some q) (he:q.2.map (·.1)=q.2.map (·.2)):Kh S1 g.w q.1 v∧q.1.one=true:=by
 have old:∀ {x:PV},bd1 ts s p=(Zj p).map (fun q=>(q,[]))→Kh S1 g.w q.1 v∧q.1.one=true:=fun e=>by
  rw [e] at hd
  obtain ⟨q0,h1,rfl⟩:=Option.map_eq_some_iff.1 hd
  obtain ⟨h2,h3⟩:=Mj hr h1
  exact ⟨h2.mono hS (fun _ _ _=>rfl) (fun _ _=>rfl),h3⟩
 cases p
 case ex t k b N o n =>
  simp only [bd1] at hd
  split at hd
  ·rename_i ht
   split at hd
   ·rename_i k' b' xss N' e1 e2
    split at hd
    ·rename_i hkb
     cases hd
     obtain ⟨rfl,rfl⟩:=hkb
     simp only [List.map_cons,List.map_nil,List.cons.injEq,and_true] at he
     obtain ⟨rfl,rfl,rfl⟩:=he
     have hN:=(h.exs t _ _ _ e1).1
     rw [h.hT,e2] at hN
     simp only [Option.some.injEq,Prod.mk.injEq] at hN
     obtain ⟨rfl,_⟩:=hN
     simp only [Kx] at hr
     obtain ⟨_,N2,f1,_,f3⟩:=hr
     rw [h.hT,e2] at f1; cases f1
     exact ⟨hb t (by simpa using ht) _ _ _ e1 v (f3 rfl),rfl⟩
    ·cases hd
   ·cases hd
  ·cases hd
 all_goals exact old (x:=.any) rfl
theorem Jln (h:Kw Gl S0 w0 s a g) {ts:List Nat} {S1:Qj} (hS:∀ B o,g.S B o→S1 B o) (hb:∀ t,t∈ts→∀ k b xss,s.X t=some (k,b,xss)→∀ v,Ny (g.hd t) xss.length k 0 xss.length v→Kh S1 g.w (.lst .frozen k b xss) v) :
  ∀ {cs:List PV} {q:List PV×List (Nat×Nat)} {vs:List Value},Kv (Wk g) cs vs→bdL ts s cs=some q→q.2.map (·.1)=q.2.map (·.2)→Kv (Kh S1 g.w) q.1 vs
 | [],q,vs,hr,hd,_=>by
  simp only [bdL] at hd; cases hd
  rw [hr.nil_left]; exact .nil
 | c::cs,q,vs,hr,hd,he=>by
  simp only [bdL] at hd
  split at hd
  ·rename_i x y e1 e2
   cases hd
   obtain ⟨v,vs',rfl,h1,h2⟩:=hr.cons_left
   obtain ⟨he1,he2⟩:=Jou he
   exact .cons (Jpj h hS hb h1.1 e1 he1).1 (Jln h hS hb h2 e2 he2)
  ·cases hd
theorem Jpx (h:Kw Gl S0 w0 s a g) {ts:List Nat} {S1:Qj} (hS:∀ B o,g.S B o→S1 B o) (hb:∀ t,t∈ts→∀ k b xss,s.X t=some (k,b,xss)→∀ v,Ny (g.hd t) xss.length k 0 xss.length v→Kh S1 g.w (.lst .frozen k b xss) v)
  {p:PV} {q:PV×List (Nat×Nat)} {v:Value} (hr:Qb g p v) (hd:bdA ts s p=some q) (he:q.2.map (·.1)=q.2.map (·.2)):Kh S1 g.w q.1 v:=by
 cases p
 case agg cs =>
  simp only [bdA] at hd
  obtain ⟨x,h1,rfl⟩:=Option.map_eq_some_iff.1 hd
  simp only [Qb] at hr
  obtain ⟨arr,e,h2⟩:=hr
  simp only [Kh]
  exact ⟨arr,e,(Vr _ _).2 (Jln h hS hb h2 h1 he)⟩
 all_goals
  simp only [Qb] at hr
  exact (Jpj h hS hb hr hd he).1
theorem Jg0 (h:Kw Gl S0 w0 s a g) {ts:List Nat} {S1:Qj} (hS:∀ B o,g.S B o→S1 B o) (hb:∀ t,t∈ts→∀ k b xss,s.X t=some (k,b,xss)→∀ v,Ny (g.hd t) xss.length k 0 xss.length v→Kh S1 g.w (.lst .frozen k b xss) v) :
  ∀ {ps:List PV} {q:List PV×List (Nat×Nat)} {vs:List Value},Kv (Rel g) ps vs→Xy ts s ps=some q→q.2.map (·.1)=q.2.map (·.2)→Kv (Kh S1 g.w) q.1 vs
 | [],q,vs,hr,hd,_=>by
  simp only [Xy] at hd; cases hd
  rw [hr.nil_left]; exact .nil
 | c::cs,q,vs,hr,hd,he=>by
  simp only [Xy] at hd
  split at hd
  ·rename_i x y e1 e2
   cases hd
   obtain ⟨v,vs',rfl,h1,h2⟩:=hr.cons_left
   obtain ⟨he1,he2⟩:=Jou he
   refine .cons (Jpx h hS hb ?_ e1 he1) (Jg0 h hS hb h2 e2 he2)
   cases c
   case tup cs=>simp [bdA,bd1,Zj] at e1
   all_goals exact h1
  ·cases hd
/-- Numbers, truth values, texts; rows of these. -/
def Jfy : PV→Bool
 | .int _ _|.bool _|.str _=>true
 | _=>false
def Jqf : PV→Bool
 | .agg cs=>cs.all Jfy
 | p=>Jfy p
def Jtp : PV→Bool
 | .tup vs=>vs.all Jqf
 | p=>Jqf p
theorem Jdy {g g':GG} {p:PV} {v:Value} (hs:Jfy p=true) (h:Kx g p v):Kx g' p v:=by
 cases p <;> simp only [Jfy,Bool.false_eq_true] at hs <;> (simp only [Kx,Kh] at h ⊢; exact h)
theorem Xl {g g':GG} {p:PV} {v:Value} (hs:Jqf p=true) (h:Qb g p v):Qb g' p v:=by
 cases p
 case agg cs =>
  simp only [Qb] at h ⊢
  obtain ⟨arr,e,h2⟩:=h
  exact ⟨arr,e,h2.1,fun i p v hp hv=>⟨Jdy (List.all_eq_true.1 hs p (List.mem_of_getElem? hp)) (h2.2 i p v hp hv).1,(h2.2 i p v hp hv).2⟩⟩
 case int k n=>exact Jdy (g:=g) (g':=g') (p:=.int k n) hs h
 case bool b=>exact Jdy (g:=g) (g':=g') (p:=.bool b) hs h
 case str b=>exact Jdy (g:=g) (g':=g') (p:=.str b) hs h
 all_goals (simp [Jqf,Jfy] at hs)
theorem Jlj {g g':GG} {p:PV} {v:Value} (hs:Jtp p=true) (h:Rel g p v):Rel g' p v:=by
 cases p
 case tup cs =>
  simp only [Rel] at h ⊢
  obtain ⟨arr,e,h2⟩:=h
  exact ⟨arr,e,h2.1,fun i p v hp hv=>Xl (List.all_eq_true.1 hs p (List.mem_of_getElem? hp)) (h2.2 i p v hp hv)⟩
 case agg cs=>exact Xl (g:=g) (g':=g') (p:=.agg cs) hs h
 case int k n=>exact Xl (g:=g) (g':=g') (p:=.int k n) hs h
 case bool b=>exact Xl (g:=g) (g':=g') (p:=.bool b) hs h
 case str b=>exact Xl (g:=g) (g':=g') (p:=.str b) hs h
 all_goals (simp [Jtp,Jqf,Jfy] at hs)
end
end PM
/-
 THE PURE MACHINE, M: calls; the operations of a region in the order of the text.
-/
namespace PM
open Go Go.RowKit
section
variable {P:Program} {Gl:Nat→Option (List PV)} {S0:Bs} {w0:World} {s:PSt} {a:Act} {g:GG} {w:World}
theorem Px.noH {g':GG} (hH:∀ l,g'.H l=none) {p:PV} {v:Value} (h:Px g' p v):Kh g'.S g'.w p v:=by
 cases p <;> simp only [Px] at h
 case ref l off=>rw [hH l] at h; simp at h
 all_goals exact h
/-- A result of a call, in the caller's terms. -/
theorem Jlo {g' g2:GG} {d:Nat} {r:PV} {v:Value} (hw:g2.w=g'.w) (hS:g2.S=g'.S) (hH:∀ l,g'.H l=none) (hk0:∀ t n,g'.T t≠some (n,0))
  (hT:∀ t n k,(t,(n,k))∈Jlu r→g2.T (1000 * d+t)=some (n,k)∧g2.hd (1000 * d+t)=g'.hd t) (hfun:∀ t n k n' k',g'.T t=some (n',k')→(t,(n,k))∈Jlu r→(n,k)=(n',k')) (h:Kx g' r v):Kx g2 (Jfn d r) v:=by
 cases r
 case lst o k b xss =>
  cases o
  case own t =>
   simp only [Kx] at h
   obtain ⟨h1,n,h2,h3,h4⟩:=h
   obtain ⟨e1,e2⟩:=hT t xss.length k (by simp [Jlu])
   have e3:=hfun t xss.length k n k h2 (by simp [Jlu])
   have e4:xss.length=n:=(Prod.mk.inj e3).1
   simp only [Jfn,Kx]
   exact ⟨by rw [hS,hw]; exact h1,xss.length,e1,Nat.le_refl _,fun _=>by rw [e2]; exact h4 e4⟩
  all_goals (simp only [Jfn]; simp only [Kx] at h ⊢; rw [hS,hw]; exact h)
 case ifc=>exact h
 case ref l off=>simp only [Kx] at h; rw [hH l] at h; simp at h
 case mp l=>simp only [Kx] at h; rw [hH l] at h; simp at h
 case sl l _ len k b=>simp only [Kx] at h; obtain ⟨_,cs,h2,_⟩:=h; rw [hH l] at h2; cases h2
 case ex=>obtain ⟨_,_,h2,_⟩:=h; exact absurd h2 (hk0 _ _)
 case eref=>obtain ⟨_,_,h2,_⟩:=h; exact absurd h2 (hk0 _ _)
 case ub=>exact h
 case fn f caps =>
  simp only [Jfn,Kx] at h ⊢
  obtain ⟨arr,h1,h2⟩:=h
  refine ⟨arr,h1,h2.mono fun x y hxy=>?_⟩
  have:=hxy.noH hH
  cases x <;> simp only [Px] <;> first|(rw [hS,hw]; exact this)|(simp only [Kh] at this)
 all_goals (simp only [Jfn]; simp only [Kx] at h ⊢; try (rw [hS,hw]; exact h))
theorem Jkx {g' g2:GG} {d:Nat} {r:PV} {v:Value} (hw:g2.w=g'.w) (hS:g2.S=g'.S) (hH:∀ l,g'.H l=none) (hk0:∀ t n,g'.T t≠some (n,0))
  (hT:∀ t n k,(t,(n,k))∈Jl3 r→g2.T (1000 * d+t)=some (n,k)∧g2.hd (1000 * d+t)=g'.hd t) (hfun:∀ t n k n' k',g'.T t=some (n',k')→(t,(n,k))∈Jl3 r→(n,k)=(n',k')) (h:Qb g' r v):Qb g2 (Jnp d r) v:=by
 cases r
 case agg cs =>
  simp only [Qb,Jnp] at h ⊢
  obtain ⟨arr,h1,h2⟩:=h
  refine ⟨arr,h1,by simp [h2.1],fun i x y hx hy=>?_⟩
  rw [List.getElem?_map] at hx
  cases hc:cs[i]? with
  | none=>rw [hc] at hx; cases hx
  | some c =>
   rw [hc] at hx; cases hx
   have hmem:c∈cs:=List.mem_of_getElem? hc
   have:=h2.2 i c y hc hy
   have sub:∀ z,z∈Jlu c→z∈Jl3 (.agg cs):=fun z hz=>List.mem_flatMap.2 ⟨c,hmem,hz⟩
   exact ⟨Jlo hw hS hH hk0 (fun t n k hm=>hT t n k (sub _ hm)) (fun t n k n' k' e hm=>hfun t n k n' k' e (sub _ hm)) this.1,this.2⟩
 all_goals
  (simp only [Qb] at h
   simp only [Jl3] at hT hfun
   exact (Jlo hw hS hH hk0 hT hfun h).relA')
theorem Jtq {g' g2:GG} {d:Nat} {r:PV} {v:Value} (hw:g2.w=g'.w) (hS:g2.S=g'.S) (hH:∀ l,g'.H l=none) (hk0:∀ t n,g'.T t≠some (n,0))
  (hT:∀ t n k,(t,(n,k))∈Vw r→g2.T (1000 * d+t)=some (n,k)∧g2.hd (1000 * d+t)=g'.hd t) (hfun:∀ t n k n' k',g'.T t=some (n',k')→(t,(n,k))∈Vw r→(n,k)=(n',k')) (h:Rel g' r v):Rel g2 (Pd d r) v:=by
 cases r
 case tup cs =>
  simp only [Rel,Pd] at h ⊢
  obtain ⟨arr,h1,h2⟩:=h
  refine ⟨arr,h1,by simp [h2.1],fun i x y hx hy=>?_⟩
  rw [List.getElem?_map] at hx
  cases hc:cs[i]? with
  | none=>rw [hc] at hx; cases hx
  | some c =>
   rw [hc] at hx; cases hx
   have hmem:c∈cs:=List.mem_of_getElem? hc
   have sub:∀ z,z∈Jl3 c→z∈Vw (.tup cs):=fun z hz=>List.mem_flatMap.2 ⟨c,hmem,hz⟩
   exact Jkx hw hS hH hk0 (fun t n k hm=>hT t n k (sub _ hm)) (fun t n k n' k' e hm=>hfun t n k n' k' e (sub _ hm)) (h2.2 i c y hc hy)
 all_goals
  (simp only [Rel] at h
   simp only [Vw] at hT hfun
   exact (Jkx hw hS hH hk0 hT hfun h).rel)
theorem Kw.after (h:Kw Gl S0 w0 s a g) {r:PV} {v:Value} {g':GG} (ha:Bz g.S g.w r v g') (d:Nat) (hf:Zp d s.T (Vw r)) :
  ∃ g2,Kw Gl S0 w0 (PM.addToks d s (Vw r)) a g2∧g2.w=g'.w∧Rel g2 (Pd d r) v:=by
 obtain ⟨h1,g1⟩:=h.grow ha.below ha.sub ha.new
 obtain ⟨g2,k1,k2,k3,k4,k5,k6⟩:=Kw.addToks (d:=d) (g':=g') (base:=g.w.heap.size) h.below.size ha.owns ha.ownsEx (Vw r) s _ h1 rfl rfl (fun x hx=>(ha.T x.1 x.2.1 x.2.2).2 hx) hf
  (fun t B hs=>.inl ((hs.congr (g:=g) rfl rfl).lt h)) (fun l' hl'=>by
   obtain ⟨ob,hob⟩:=Option.isSome_iff_exists.1 hl'
   exact (h.objs l' ob hob).2.1) (fun t B hx=>((hx.congr (g:=g) rfl).lt h).1)
 refine ⟨g2,k1,k3,Jtq (g':=g') k3 k4 ha.H (fun t n e=>Jkd hf _ ((ha.T _ _ _).1 e) rfl) (fun t n k hm=>k5 (t,(n,k)) hm) (fun t n k n' k' e hm=>?_) ha.rel⟩
 have:=(ha.T t n k).2 hm
 rw [e] at this
 cases this; rfl
/-- A call, by contract. -/
def Jvm (P:Program) (Gl:Nat→Option (List PV)) (draw:Bool) (dst:Option Nat) (x:PV) (args:List PV) (s:PSt) (K:PSt→Prop):Prop :=
 ∃ f caps as r,x=.fn f caps∧caps.all Bh=true∧Hm (args++caps)=some as∧Kj P Gl f as r∧Zp (dst.getD 0) s.T (Vw r)∧(draw=true→Vw r=[])∧K ((addToks (dst.getD 0) s (Vw r)).put dst (Pd (dst.getD 0) r))
/-- A call that reads lists that only locked tokens hold, and returns scalars. -/
def Jzc (P:Program) (Gl:Nat→Option (List PV)) (dst:Option Nat) (x:PV) (args:List PV) (s:PSt) (K:PSt→Prop):Prop :=
 ∃ f caps as r ts eqs,x=.fn f caps∧caps.all Bh=true∧Xy ts s (args++caps)=some (as,eqs)∧eqs.map (·.1)=eqs.map (·.2)∧(ts.all Nd)=true∧Kj P Gl f as r∧Jtp r=true∧K (s.put dst r)
/-- There is a value, and it is such. -/
def ok {α:Type} (o:Option α) (K:α→Prop):Prop:=∃ x,o=some x∧K x
def Mh (P:Program) (Gl:Nat→Option (List PV)) (draw:Bool) (o:Oper) (s:PSt) (K:PSt→Prop):Prop :=
 match Vi o.op with
 | some (x,args)=>Jvm P Gl draw o.dst (s.ev x) (args.map s.ev) s K∨Jzc P Gl o.dst (s.ev x) (args.map s.ev) s K
 | none=>ok (evO P Gl o.dst o.op s.ev s.H s.T s.X) fun x=>K ((x.2.app s).put o.dst x.1)
theorem Wr {op:Op} {x:Operand} {args:List Operand} (h:Vi op=some (x,args)):∃ c,op=.call c∧c.callee=.value x∧c.args.toList=args:=by
 unfold Vi at h
 split at h
 ·rename_i c
  split at h
  ·rename_i f hf
   cases h
   exact ⟨c,rfl,hf,rfl⟩
  ·cases h
 ·cases h
/-- One step is sound. -/
theorem Jiy {draw:Bool} (h:Kw Gl S0 w0 s a g) {o:Oper} {K:PSt→Prop} (hs:Mh P Gl draw o s K) {K':Act→World→Prop} {Q:Exit→Act→World→Prop} (hK:∀ s' a' w',K s'→Inv Gl S0 w0 s' a' w'→K' a' w') :
  o.wp P a g.w K' Q:=by
 unfold Mh at hs
 split at hs
 ·rename_i x args hc
  obtain ⟨c,hop,hcal,hargs⟩:=Wr hc
  have go:∀ {f:FuncId} {caps:List PV} {fn:Func},s.ev x=.fn f caps→caps.all Bh=true→P.funcs[f]? = some fn→(fn.name == "runtime.NumGoroutine")=false→fn.body.isNone=false →
    ∃ vs:Array Value,Kv (Rel g) (args.map s.ev++caps) vs.toList∧(execOp a.eval o).run P g.w=.ok (.enter f vs) g.w:=by
   intro f caps fn e1 ecap hfn1 hfn2 hfn3
   have hx:=h.ev x
   rw [e1] at hx
   simp only [Rel,Qb,Kx] at hx
   obtain ⟨arr,hfv,hcaps⟩:=hx
   refine ⟨c.args.map a.eval++arr, ?_, ?_⟩
   ·rw [Array.toList_append,Array.toList_map,hargs]
    refine Kv.append ⟨by simp,fun i p v hp hv=>?_⟩ ⟨hcaps.1,fun i p v hp hv=>?_⟩
    ·rw [List.getElem?_map] at hp hv
     cases hi:args[i]? with
     | none=>rw [hi] at hp; cases hp
     | some y=>rw [hi] at hp hv; cases hp; cases hv; exact h.ev y
    ·have hpv:=hcaps.2 i p v hp hv
     have hcap:=List.all_eq_true.1 ecap p (List.mem_of_getElem? hp)
     cases p <;> simp only [Bh] at hcap <;> try cases hcap
     all_goals exact hpv
   ·have hname:fn.name ≠ "runtime.NumGoroutine" := by simpa using hfn2
    have hbody:fn.body≠none:=fun e=>by rw [e] at hfn3; cases hfn3
    simp [execOp,hop,resolve,hcal,hfv,Deferred.ofValue,invoke,callFunc,run_program,hfn1,hname,hbody]
  rcases hs with ⟨f,caps,as,r,e1,ecap,e2,⟨⟨fn,hfn1,hfn2,hfn3⟩,hcall⟩,e4,_,e6⟩|⟨f,caps,as,r,ts,eqs,e1,ecap,e2,eeq,_,⟨⟨fn,hfn1,hfn2,hfn3⟩,hcall⟩,hsc,e6⟩
  ·obtain ⟨vs,hall,hrun⟩:=go e1 ecap hfn1 hfn2 hfn3
   have hD:=Dl hall e2
   unfold Oper.wp
   rw [hrun]
   refine (hcall g.S g.w _ h.lt h.glob hD).mono fun e w' he=>?_
   obtain ⟨v,g',rfl,rfl,ha⟩:=he
   obtain ⟨g2,q1,q2,q3⟩:=h.after ha (o.dst.getD 0) e4
   exact hK _ _ _ e6 ⟨g2,q2,q1.put _ q3⟩
  ·obtain ⟨vs,hall,hrun⟩:=go e1 ecap hfn1 hfn2 hfn3
   obtain ⟨S1,b1,b2,b3,b4⟩:=h.borrow ts
   have hD:=Jg0 h b1 b4 hall e2 eeq
   unfold Oper.wp
   rw [hrun]
   refine (hcall S1 g.w _ b2 b3 hD).mono fun e w' he=>?_
   obtain ⟨v,g',rfl,rfl,ha⟩:=he
   obtain ⟨k1,_⟩:=h.grow' ha.below
   exact hK _ _ _ e6 ⟨{ g with w:=g'.w },rfl,k1.put _ (Jlj hsc ha.rel)⟩
 ·obtain ⟨x,e1,e2⟩:=hs
  unfold evO at e1
  split at e1
  ·rcases Jvj h o e1 with ⟨v,w',r1,r2⟩|⟨w',r1,r2⟩ <;> (unfold Oper.wp; rw [r1]; exact hK _ _ _ e2 r2)
  ·obtain ⟨p,hp,rfl⟩:=Option.map_eq_some_iff.1 e1
   obtain ⟨z,r1,r2⟩:=Jw1 h o hp
   unfold Oper.wp
   rw [r1]
   exact hK _ _ _ e2 ⟨g,rfl,h.put _ r2⟩
/-- What else an operation may do: it yields v, and H, T, X are those of n behind it. -/
def Pq (s n:PSt):PSt:={ s with H:=n.H,T:=n.T,X:=n.X }
def Jic (P:Program) (Gl:Nat→Option (List PV)) (o:Oper) (s n:PSt) (v:PV):Prop :=
 ∀ (S0:Bs) (w0:World) (a:Act) (g:GG) (K:Act→World→Prop) (Q:Exit→Act→World→Prop),Kw Gl S0 w0 s a g →
  (∀ z g',Kw Gl S0 w0 (Pq s n) a g'→GLe g g'→Rel g' v z→K (a.put o.dst z) g'.w)→o.wp P a g.w K Q
def Jae : Op→Bool
 | .move _=>true
 | _=>false
def Mx (P:Program) (Gl:Nat→Option (List PV)) (draw:Bool) (o:Oper) (s:PSt) (K:PSt→Prop):Prop :=
 Mh P Gl draw o s K∨(draw=false∧Jae o.op=false∧∃ n v,Jic P Gl o s n v∧K ((Pq s n).put o.dst v))
theorem Hz {draw:Bool} (h:Kw Gl S0 w0 s a g) {o:Oper} {K:PSt→Prop} (hs:Mx P Gl draw o s K) {K':Act→World→Prop} {Q:Exit→Act→World→Prop} (hK:∀ s' a' w',K s'→Inv Gl S0 w0 s' a' w'→K' a' w') :
  o.wp P a g.w K' Q:=by
 rcases hs with hs|⟨_,_,n,v,h1,h2⟩
 ·exact Jiy h hs hK
 ·exact h1 S0 w0 a g K' Q h fun z g' e1 _ e3=>hK _ _ _ h2 ⟨g',rfl,e1.put _ e3⟩
end
end PM
