import Derived.Test.YtmklahiganfdmaaGreatDoorPmV
/-
 THE PURE MACHINE, Q: lists that only one token holds: contents that change in place, growing, sharing.
-/
namespace PM
open Go Go.RowKit
section
variable {P:Program} {Gl:Nat→Option (List PV)} {S0:Bs} {w0:World} {s:PSt} {a:Act} {g:GG}
/-- The list gets another header: it has grown. -/
theorem Kw.exHead (h:Kw Gl S0 w0 s a g) {t k b:Nat} {xss:List (List PV)} {v:Value} (ht:∀ n0 k0,g.T t=some (n0,k0)→k0=0∧n0<xss.length) (hb9:g.T t=none→t<1000000000) (hBk:g.T t≠none→∀ B,HB v B→HB (g.hd t) B∨w0.heap.size≤B) (hk0:k≠0) (hk:∀ cs∈xss,cs.length=k) (hl1:xss.length * b≤140737488351232) (hl2:xss.length≤140737488351232)
  (hv:(Pg v∧xss=[])∨∃ B cap,v=.slice (some ⟨B,0,none⟩) xss.length cap∧0<cap∧ExB g S0.E w0.heap.size t k xss B cap∧∀ t',t'≠t→¬ XB s.X g t' B) :
  Kw Gl S0 w0 { s with T:=upd s.T t (some (xss.length,0)),X:=upd s.X t (some (k,b,xss)) } a { g with hd:=fun x=>if x=t then v else g.hd x,T:=upd g.T t (some (xss.length,0)) }∧GLe g { g with hd:=fun x=>if x=t then v else g.hd x,T:=upd g.T t (some (xss.length,0)) }:=by
 have hle:GLe g { g with hd:=fun x=>if x=t then v else g.hd x,T:=upd g.T t (some (xss.length,0)) }:=by
  refine ⟨fun _ _ h=>h,fun _ _ _=>rfl,fun _ _=>rfl,fun l ob h1=>⟨rfl,ob,h1,fun cs e=>⟨cs,e,rfl⟩⟩,fun t' n' k' h1=>?_⟩
  by_cases e:t'=t
  ·subst e
   obtain ⟨rfl,hlt⟩:=ht _ _ h1
   exact ⟨xss.length,Qi _ _ _,by omega,fun e=>by omega⟩
  ·exact ⟨n',by show upd g.T t _ t'=_; rw [Kr _ _ _ _ e]; exact h1,Nat.le_refl _,fun _=>if_neg e⟩
 have hvB:∀ B off n cap,v=.slice (some ⟨B,off,none⟩) n cap→0<cap→off=0∧n=xss.length∧ExB g S0.E w0.heap.size t k xss B cap∧∀ t',t'≠t→¬ XB s.X g t' B:=by
  intro B off n cap e hc
  rcases hv with ⟨e1|⟨_,e1⟩,_⟩|⟨B',cap',e1,_,e2⟩
  ·rw [e1] at e; cases e
  ·rw [e1] at e; cases e; omega
  ·rw [e1] at e; cases e; exact ⟨rfl,rfl,e2⟩
 have hspare:∀ t' B,Wg { g with hd:=fun x=>if x=t then v else g.hd x,T:=upd g.T t (some (xss.length,0)) } t' B→(t'=t∧∃ off n cap,v=.slice (some ⟨B,off,none⟩) n cap∧0<cap)∨(t'≠t∧Wg g t' B):=by
  rintro t' B ⟨n',k',off,cap,h1,h2,h3⟩
  by_cases e:t'=t
  ·subst e
   simp only [if_true] at h2
   exact .inl ⟨rfl,off,n',cap,h2,h3.pos⟩
  ·have h1':upd g.T t (some (xss.length,0)) t'=some (n',k'):=h1
   rw [Kr _ _ _ _ e] at h1'
   simp only [if_neg e] at h2
   exact .inr ⟨e,n',k',off,cap,h1',h2,h3⟩
 have hXB:∀ t' B,XB (upd s.X t (some (k,b,xss))) { g with hd:=fun x=>if x=t then v else g.hd x,T:=upd g.T t (some (xss.length,0)) } t' B→(t'=t∧∃ off n cap,v=.slice (some ⟨B,off,none⟩) n cap∧0<cap)∨(t'≠t∧XB s.X g t' B):=by
  rintro t' B ⟨h1,off,n,cap,h2,h3⟩
  by_cases e:t'=t
  ·subst e
   simp only [if_true] at h2
   exact .inl ⟨rfl,off,n,cap,h2,h3⟩
  ·rw [Kr _ _ _ _ e] at h1
   simp only [if_neg e] at h2
   exact .inr ⟨e,h1,off,n,cap,h2,h3⟩
 refine ⟨{ hH:=h.hH,hT:=by rw [← h.hT],defers:=h.defers,len:=h.len,tm:=fun i p v hp hv=>(h.tm i p v hp hv).mono hle,sub:=h.sub,new:=h.new,lt:=h.lt,below:=h.below,objs:=fun l ob hob=>?_,inj:=h.inj,owns:=fun t' n' k' ht'=>?_,ownsEx:=fun t1 t2 B h1 h2=>?_,ownsObj:=fun t' B l hs hl=>?_,glob:=h.glob,exs:=fun t' k' b' xss' hx=>?_,exsEx:=fun t1 t2 B h1 h2=>?_,fix:=h.fix,fixT:=fun t' v' n' hF=>⟨(h.fixT t' v' n' hF).1,fun n0 e=>by
  have e':upd g.T t (some (xss.length,0)) t'=some (n0,0):=e
  have h9:=(h.fixT t' v' n' hF).1
  by_cases q:t'=t
  ·rw [q,Qi] at e'; cases e'
   cases hTt:g.T t with
   | none=>have:=hb9 hTt; omega
   | some p =>
    obtain ⟨n1,k1⟩:=p
    obtain ⟨rfl,hlt⟩:=ht n1 k1 hTt
    have h8:=(h.fixT t' v' n' hF).2 n1 (by rw [q]; exact hTt)
    have:=h8.1
    refine ⟨by omega,fun e=>by omega,fun B hB=>?_⟩
    simp only [q,if_true] at hB
    rcases hBk (by rw [hTt]; simp) B hB with hB|hB
    ·exact h8.2.2 B (by rw [q]; exact hB)
    ·exact .inr hB
  ·rw [Kr _ _ _ _ q] at e'
   simp only [if_neg q]; exact (h.fixT t' v' n' hF).2 n0 e'⟩ },hle⟩
 ·obtain ⟨k1,k2,k3,k4⟩:=h.objs l ob hob
  exact ⟨k1,k2,k3,k4.mono hle (fun _=>rfl) (fun _=>rfl) (fun _ _ h=>h)⟩
 ·by_cases e:t'=t
  ·subst e
   have h1:upd g.T t' (some (xss.length,0)) t'=some (n',k'):=ht'
   rw [Qi] at h1
   cases h1
   rcases hv with ⟨e1,e2⟩|⟨B,cap,e1,e2,e3,_⟩
   ·refine .inl ⟨?_,by rw [e2]; rfl⟩
    show Pg (if t'=t' then v else g.hd t')
    rw [if_pos rfl]; exact e1
   ·exact .inr ⟨B,0,cap,(if_pos rfl).trans e1,e3.1,fun _=>⟨fun q=>absurd rfl q,e3.2.2.1,fun j hj=>by simp at hj,fun q=>absurd rfl q⟩⟩
  ·have h1:upd g.T t (some (xss.length,0)) t'=some (n',k'):=ht'
   rw [Kr _ _ _ _ e] at h1
   have:=h.owns t' n' k' h1
   unfold Jgg at this ⊢
   simp only [if_neg e]
   exact this
 ·rcases hspare t1 B h1 with ⟨e1,off,n,cap,e,hlt⟩|⟨e1,h1'⟩ <;> rcases hspare t2 B h2 with ⟨e2,off2,n2,cap2,e',hlt'⟩|⟨e2,h2'⟩
  ·rw [e1,e2]
  ·exact absurd ((hvB B off n cap e hlt).2.2.1.2.2.2.2.2.2.2 t2 h2') e2
  ·exact absurd ((hvB B off2 n2 cap2 e' hlt').2.2.1.2.2.2.2.2.2.2 t1 h1') e1
  ·exact h.ownsEx t1 t2 B h1' h2'
 ·rcases hspare t' B hs with ⟨e1,off,n,cap,e,hlt⟩|⟨e1,h1'⟩
  ·exact (hvB B off n cap e hlt).2.2.1.2.2.2.2.2.2.1 l hl
  ·exact h.ownsObj t' B l h1' hl
 ·by_cases e:t'=t
  ·subst e
   have h1:upd s.X t' (some (k,b,xss)) t'=some (k',b',xss'):=hx
   rw [Qi] at h1; cases h1
   refine ⟨Qi _ _ _,hk0,hk,hl1,hl2, ?_⟩
   rcases hv with ⟨e1,e2⟩|⟨B,cap,e1,e2,⟨f1,f2,f3,f4,f5,f6,f7,f8⟩,_⟩
   ·exact .inl ⟨by simp only [if_true]; exact e1,e2⟩
   ·refine .inr ⟨B,cap,(if_pos rfl).trans e1,e2,f1,f2,f3,f4, ?_,f6,f7,fun t2 h2=>?_⟩
    ·obtain ⟨us,u1,u2⟩:=f5
     exact ⟨us,u1.mono fun _ _ q=>⟨q.1.mono hle.S hle.cell hle.blk,q.2⟩,u2⟩
    ·rcases hspare t2 B h2 with ⟨q,_⟩|⟨_,q⟩
     ·exact q
     ·exact f8 t2 q
  ·have h1:upd s.X t (some (k,b,xss)) t'=some (k',b',xss'):=hx
   rw [Kr _ _ _ _ e] at h1
   refine (h.exs t' k' b' xss' h1).mono hle (Kr _ _ _ _ e) (if_neg e) (Nat.le_refl _) fun B' off' n' cap' e1 e2 e3 e4 e5 e6=>⟨fun _=>rfl,fun _=>rfl,e4,e5,fun t2 hs=>?_⟩
   rcases hspare t2 B' hs with ⟨_,off2,n2,cap2,q1,q2⟩|⟨_,q⟩
   ·exact absurd (show XB s.X g t' B' from ⟨by rw [h1]; rfl,off',n',cap',e1⟩) ((hvB B' off2 n2 cap2 q1 q2).2.2.2 t' e)
   ·exact e6 t2 q
 ·rcases hXB t1 B h1 with ⟨e1,off,n,cap,e,hlt⟩|⟨e1,h1'⟩ <;> rcases hXB t2 B h2 with ⟨e2,off2,n2,cap2,e',hlt'⟩|⟨e2,h2'⟩
  ·rw [e1,e2]
  ·exact absurd h2' ((hvB B off n cap e hlt).2.2.2 t2 e2)
  ·exact absurd h1' ((hvB B off2 n2 cap2 e' hlt').2.2.2 t1 e1)
  ·exact h.exsEx t1 t2 B h1' h2'
/-- The source of an append. -/
theorem Ke6 {w:World} {S:Ua} {e k b':Nat} {t':TypeId} {i:TypeInfo} (ht2:P.underlying t'=some (.slice e)) (k3:i.size=k) {yss:List (List PV)} {u:Value} (hy:Kg S w (.lst .frozen k b' yss) u) :
  ∃ news:List Value,Src P i.size t' u yss.length news w∧news.length=yss.length * k∧Kz (fun p v=>Kg S w p v∧p.one=true) yss.flatten news∧(∀ cs∈yss,cs.length=k)∧∃ yb yc,u=.slice yb yss.length yc:=by
 obtain ⟨ybase,ycap,rfl,y1,y2,y3,news,n1,n2,n3,n4⟩:=Jal (S:=S) (w:=w) hy
 refine ⟨news, ?_,n1,n2,y2,ybase,ycap,rfl⟩
 cases ybase with
 | none =>
  obtain ⟨q1,q2⟩:=y3 rfl
  subst q2
  subst q1
  have hn0:news=[]:=List.eq_nil_of_length_eq_zero (by simpa using n1)
  rw [hn0]
  exact Src.ofNil w ht2 0
 | some ad =>
  have hcase:(yss=[]∧news=[])∨∃ B off,ad=⟨B,off,none⟩:=by
   have:=hy
   simp only [Kg] at this
   obtain ⟨_,_,_,⟨_,q⟩|⟨B,off,_,q,_⟩⟩:=this
   ·subst q; exact .inl ⟨rfl,List.eq_nil_of_length_eq_zero (by simpa using n1)⟩
   ·exact .inr ⟨B,off,by simp only [Value.slice.injEq,Option.some.injEq] at q; exact q.1⟩
  rcases hcase with ⟨q1,q2⟩|⟨B,off,rfl⟩
  ·subst q1; subst q2
   exact Src.ofSlice w ht2 _ _ _ [] (by simp) (fun j u hu=>by simp at hu) (fun u hu=>by cases hu)
  ·exact Src.ofSlice w ht2 _ _ _ news (by rw [n1,k3]) (fun j u hu=>by rw [Addr.add_mid]; exact (n4 B off rfl).2 j u hu) n3
/-- Is appended to a list that only one token holds. -/
theorem Jpa (h:Kw Gl S0 w0 s a g) {ty t t' e tk k b:Nat} {xss yss:List (List PV)} {v u:Value} (hk:Jhx P t=some (e,k,b)) (ht':Mi P t'=true) (hx:s.X tk=some (k,b,xss)) (hv:Rel g (.ex tk k b xss.length 0 xss.length) v) {b':Nat} (hy:Kg g.S g.w (.lst .frozen k b' yss) u)
  (hs1:(xss.length+yss.length) * b≤Kn) (hs2:xss.length+yss.length≤Kn) :
  ∃ v' g',(Builtin.append_ #[t,t'] ty #[v,u]).run P g.w=.ok v' g'.w∧Kw Gl S0 w0 { s with T:=upd s.T tk (some (xss.length+yss.length,0)),X:=upd s.X tk (some (k,b,xss++yss)) } a g'∧GLe g g'∧Rel g' (.ex tk k b (xss.length+yss.length) 0 (xss.length+yss.length)) v':=by
 rw [Jlu] at hs1 hs2
 obtain ⟨i,z,k1,k2,k3,k4,k5,k6,k7⟩:=Xm hk
 obtain ⟨e',ht2⟩:=Lb ht'
 obtain ⟨q1,_,q3,q4,q5,q6⟩:=h.exs tk k b xss hx
 simp only [Rel,Qo,Ky] at hv
 obtain ⟨_,N',hT',_,hview⟩:=hv
 rw [q1] at hT'; cases hT'
 have hvh:v=g.hd tk:=by
  rcases hview rfl with ⟨e1,_⟩|⟨B,cap,off,e1,e0,_,_,e2,e3⟩
  ·exact e1
  ·rw [e1,e2,show off=0 by omega]; simp
 subst hvh
 obtain ⟨news,hsrc,n1,n2,n3,yb,yc,hu⟩:=Ke6 (P:=P) ht2 k3 hy
 have hall:∀ cs∈xss++yss,cs.length=k:=fun cs hcs=>(List.mem_append.1 hcs).elim (q3 cs) (n3 cs)
 have hlen:(xss++yss).length=xss.length+yss.length:=List.length_append
 have hone:∀ {S:Ua} {w:World} {ps:List PV} {us:List Value},Kz (fun p v=>Kg S w p v∧p.one=true) ps us→∀ u∈us,u.oneCell'=true:=fun hA u hu=>by
  obtain ⟨j,hj⟩:=List.getElem?_of_mem hu
  obtain ⟨p,hp,hr⟩:=hA.left hj
  exact (hr.1.oneCell hr.2).1
 have hTX:yss=[]→({ s with T:=upd s.T tk (some (xss.length+yss.length,0)),X:=upd s.X tk (some (k,b,xss++yss)) }:PSt)=s:=fun hm=>by
  subst hm
  have e1:upd s.T tk (some (xss.length,0))=s.T:=by
   funext x
   by_cases hx':x=tk
   ·subst hx'; rw [Qi,← h.hT,q1]
   ·rw [Kr _ _ _ _ hx']
  have e2:upd s.X tk (some (k,b,xss))=s.X:=by
   funext x
   by_cases hx':x=tk
   ·subst hx'; rw [Qi,hx]
   ·rw [Kr _ _ _ _ hx']
  simp [e1,e2]
 -- a new block
 have grow:∀ (base:Option Addr) (cap:Nat) (olds:List Value),g.hd tk=.slice base xss.length cap→Kz (fun p v=>Kg g.S g.w p v∧p.one=true) xss.flatten olds→olds.length=xss.length * k→(Builtin.firstCells i.size xss.length (.slice base xss.length cap)).run P g.w.drew=.ok olds.toArray g.w.drew→cap<xss.length+yss.length →
   ∃ v' g',(Builtin.append_ #[t,t'] ty #[g.hd tk,u]).run P g.w=.ok v' g'.w∧Kw Gl S0 w0 { s with T:=upd s.T tk (some (xss.length+yss.length,0)),X:=upd s.X tk (some (k,b,xss++yss)) } a g'∧GLe g g'∧Rel g' (.ex tk k b (xss.length+yss.length) 0 (xss.length+yss.length)) v':=by
  intro base cap olds ehd o2 o1 holds hroom
  have hmpos:0<yss.length:=by
   rcases q6 with ⟨e1|⟨_,e1⟩,e2⟩|⟨B,cap',e1,e2,e3,_⟩
   ·rw [e1,e2] at ehd; simp only [Value.slice.injEq] at ehd; rw [e2] at hroom; simp only [List.length_nil] at hroom; omega
   ·rw [e1,e2] at ehd; simp only [Value.slice.injEq] at ehd; rw [e2] at hroom; simp only [List.length_nil] at hroom; omega
   ·rw [e1] at ehd; simp only [Value.slice.injEq] at ehd; omega
  have hneed:xss.length+yss.length≤grownCap g.w (xss.length+yss.length) cap e:=grownCap_ge _ _ _ _
  have hrun:=run_append_grow_src g.w t t' ty e i z k1 k2 k5 base xss.length cap olds holds u _ news hsrc (by omega) (by omega) (growslice_fits (by omega) (by rw [k4]; omega))
  generalize hC:grownCap g.w (xss.length+yss.length) cap e=C at *
  generalize hA:((olds++news).toArray++Builtin.zeroCells z.cells (C - (xss.length+yss.length)))=arr at *
  have h1l:(olds++news).length=(xss.length+yss.length) * k:=by rw [List.length_append,o1,n1,Nat.add_mul]
  have harr:arr.size=C * k:=by
   rw [← hA]
   have h2:C=(xss.length+yss.length)+(C - (xss.length+yss.length)):=by omega
   rw [Array.size_append,List.size_toArray,size_zeroCells,k6,h1l,← Nat.add_mul]
   congr 1
   omega
  obtain ⟨h1,g1⟩:=h.drew
  obtain ⟨h2,g2⟩:=h1.grow' (Sy g.w.drew (.cells arr e))
  have gle:=g1.trans g2
  have c1:Kz (fun p v=>Kg g.S (g.w.drew.alloc (.cells arr e)) p v∧p.one=true) (xss++yss).flatten (olds++news):=by
   rw [List.flatten_append]
   exact (o2.monoD gle.S gle.cell gle.blk).append (n2.monoD gle.S gle.cell gle.blk)
  have c2:(g.w.drew.alloc (.cells arr e)).rangeAt g.w.heap.size 0 (olds++news):=by
   intro j u' hu'
   have:=Nv g.w.drew arr e j u' (by
    rw [← hA]
    have hj:j<(olds++news).length:=(List.getElem?_eq_some_iff.1 hu').1
    simp only [Array.toList_append]
    rw [List.getElem?_append_left hj]
    exact hu')
   simpa using this
  have c3:(g.w.drew.alloc (.cells arr e)).there g.w.heap.size 0 (C * k):=fun j hj=>by
   have:=Su g.w.drew arr e j (by rw [harr]; exact hj)
   simpa using this
  obtain ⟨h3,g3⟩:=h2.exHead (t:=tk) (k:=k) (b:=b) (xss:=xss++yss) (v:=.slice (some ⟨g.w.heap.size,0,none⟩) (xss.length+yss.length) C)
   (fun n0 k0 q=>by
    have:g.T tk=some (n0,k0):=q
    rw [q1] at this; cases this
    exact ⟨rfl,by omega⟩) (fun q=>by have:g.T tk=none:=q; rw [q1] at this; cases this) (fun _ B0 e=>by obtain ⟨off,m,c,e1,_⟩:=e; cases e1; exact .inr h.below.size) k7 hall (by rw [hlen]; exact hs1) (by rw [hlen]; exact hs2)
   (.inr ⟨g.w.heap.size,C,by rw [hlen],by omega,⟨by rw [hlen]; exact hneed,.inl h.below.size,by simp,fun o ho=>(by have:=h.lt _ _ ho; omega),⟨olds++news,c1,c2⟩,c3,fun l hl=>h.phi_lt l hl,fun t2 h2=>(h.spare_lt t2 (h2.congr rfl rfl)).elim⟩,fun t2 _ h2=>h.xb_lt t2 (h2.congr rfl)⟩)
  ·rw [hlen] at h3 g3
   refine ⟨.slice (some ⟨g.w.heap.size,0,none⟩) (xss.length+yss.length) C,_, ?_,h3,gle.trans g3, ?_⟩
   ·rw [ehd]; exact hrun
   ·simp only [Rel,Qo,Ky]
    refine ⟨⟨_,_,rfl,hneed,fun _=>⟨_,_,rfl⟩⟩,_,Qi _ _ _,Nat.le_refl _,fun _=>.inr ⟨g.w.heap.size,C,0,by simp,by omega,hneed,by omega,by simp,by simp⟩⟩
 -- nothing appended
 have same:yss=[]→(Builtin.append_ #[t,t'] ty #[g.hd tk,u]).run P g.w=.ok (g.hd tk) g.w→∃ v' g',(Builtin.append_ #[t,t'] ty #[g.hd tk,u]).run P g.w=.ok v' g'.w∧Kw Gl S0 w0 { s with T:=upd s.T tk (some (xss.length+yss.length,0)),X:=upd s.X tk (some (k,b,xss++yss)) } a g'∧GLe g g'∧Rel g' (.ex tk k b (xss.length+yss.length) 0 (xss.length+yss.length)) v':=fun hm hrun=>by
  refine ⟨_,g,hrun,by rw [hTX hm]; exact h,GLe.refl g, ?_⟩
  subst hm
  simp only [Rel,Qo,Ky,List.length_nil,Nat.add_zero]
  refine ⟨?_,_,q1,Nat.le_refl _,hview⟩
  rcases q6 with ⟨e1|⟨_,e1⟩,e2⟩|⟨B,cap',e1,e2,e3,_⟩
  ·exact ⟨none,0,by rw [e1,e2]; rfl,by rw [e2]; simp,fun hp=>by rw [e2] at hp; simp at hp⟩
  ·exact ⟨_,0,by rw [e1,e2]; rfl,by rw [e2]; simp,fun hp=>by rw [e2] at hp; simp at hp⟩
  ·exact ⟨_,_,e1,e3,fun _=>⟨_,_,rfl⟩⟩
 rcases q6 with ⟨enil,exss⟩|⟨B,cap,ehd,hcap,r1,r2,r3,r4,⟨olds,o2,o3⟩,r6,r7,r8⟩
 ·have ehd:∃ base,g.hd tk=.slice base xss.length 0:=by
   rcases enil with e1|⟨ad,e1⟩
   ·exact ⟨none,by rw [e1,exss]; rfl⟩
   ·exact ⟨_,by rw [e1,exss]; rfl⟩
  obtain ⟨base,ehd⟩:=ehd
  have hxl:xss.length=0:=by rw [exss]; rfl
  by_cases hm:yss=[]
  ·refine same hm ?_
   have hnews:news=[]:=List.eq_nil_of_length_eq_zero (by rw [n1,hm]; simp)
   rw [hnews,hm] at hsrc
   rw [ehd,hxl]
   have hcl:=hsrc.cells
   have hcl2:=hsrc.len
   simp only [List.length_nil] at hcl hcl2
   subst hm
   subst hu
   simp only [List.length_nil] at hcl
   cases base <;> simp [Builtin.append_,run_underlying k1,run_underlying ht2,Go.sizeOf,typeInfo,k2,Builtin.lenOf,hcl,storeCells]
  ·have hfl:xss.flatten=[]:=by rw [exss]; rfl
   refine grow base 0 [] ehd (by rw [hfl]; exact .nil) (by rw [hxl]; simp) ?_ (by have:=List.length_pos_iff.2 hm; omega)
   rw [hxl]
   cases base with
   | none=>exact run_firstCells_none g.w.drew _ _ _ _
   | some ad=>exact run_firstCells_some g.w.drew i.size 0 ad _ _ [] (by simp) (by simp)
 ·have o1:olds.length=xss.length * k:=by
   rw [← Si q3,o2.1]
  by_cases hroom:xss.length+yss.length≤cap
  ·by_cases hm:yss=[]
   ·refine same hm ?_
    have hnews:news=[]:=List.eq_nil_of_length_eq_zero (by rw [n1,hm]; simp)
    rw [hnews,hm] at hsrc
    rw [ehd]
    have:=run_append_room_src g.w t t' ty e i k1 k2 B 0 xss.length cap _ _ [] hsrc (by simpa using r1) (by simp) (by simp)
    simpa [World.setCells] using this
   ·have hmpos:0<yss.length:=List.length_pos_iff.2 hm
    have hck:cap * k=xss.length * k+(cap - xss.length) * k:=by rw [← Nat.add_mul]; congr 1; omega
    have hmk:yss.length * k≤(cap - xss.length) * k:=Nat.mul_le_mul_right _ (by omega)
    have hthere:∀ j,j<news.length→(g.w.cell? ⟨B,xss.length * k+j,none⟩).isSome=true∧g.w.frozen? ⟨B,xss.length * k+j,none⟩=false:=fun j hj=>by
     have:=r6 (xss.length * k+j) (by omega)
     rwa [Nat.zero_add] at this
    have hrun:=run_append_room_src g.w t t' ty e i k1 k2 B 0 xss.length cap u _ news hsrc hroom (fun j hj=>by rw [k3,Nat.zero_add]; exact (hthere j hj).1) (fun j hj=>by rw [k3,Nat.zero_add]; exact (hthere j hj).2)
    rw [k3,Nat.zero_add] at hrun
    have hb:=Pv g.w B (xss.length * k) news
    have hbe:Wr (·=B) g.w (g.w.setCells B (xss.length * k) news):=⟨hb.os,hb.tape,hb.output,Nat.le_of_eq hb.size.symm,fun j _ hj=>hb.block j hj,Nat.le_of_eq hb.drawn.symm⟩
    obtain ⟨h2,g2⟩:=h.exWorld (S':=g.S) hx ehd hcap hbe (fun _ _ e=>e) (fun _ _ e=>.inl e) rfl q3 (World.there_setCells r6 _ _ _) (o2.monoD (fun _ _ e=>e) (fun B' o ho=>hb.cell fun e=>r4 o (e▸ho)) fun B' ho=>hb.block _ fun e=>r4 0 (e▸ho 0)) (fun j v hj=>by
     have hj':j<olds.length:=(List.getElem?_eq_some_iff.1 hj).1
     rw [World.cell?_setCells_out _ _ _ _ _ (fun _ _=>.inl (by show 0+j<_; omega))]
     exact o3 j v hj)
    have hX2:({ s with X:=upd s.X tk (some (k,b,xss)) }:PSt)=s:=by
     have e2:upd s.X tk (some (k,b,xss))=s.X:=by
      funext x
      by_cases hx':x=tk
      ·subst hx'; rw [Qi,hx]
      ·rw [Kr _ _ _ _ hx']
     rw [e2]
    rw [hX2] at h2
    have c1:Kz (fun p v=>Kg g.S (g.w.setCells B (xss.length * k) news) p v∧p.one=true) (xss++yss).flatten (olds++news):=by
     rw [List.flatten_append]
     exact (o2.monoD g2.S g2.cell g2.blk).append (n2.monoD g2.S g2.cell g2.blk)
    have c2:(g.w.setCells B (xss.length * k) news).rangeAt B 0 (olds++news):=by
     intro j u' hu'
     rw [Nat.zero_add]
     rw [List.getElem?_append] at hu'
     by_cases hj:j<olds.length
     ·rw [if_pos hj] at hu'
      rw [World.cell?_setCells_out _ _ _ _ _ (fun _ _=>.inl (by show j<_; omega))]
      have:=o3 j u' hu'
      rwa [Nat.zero_add] at this
     ·rw [if_neg hj] at hu'
      have hj2:j - olds.length<news.length:=(List.getElem?_eq_some_iff.1 hu').1
      have:=World.cell?_setCells_in B news (xss.length * k) g.w (fun i hi=>(hthere i hi).1) (j - olds.length) hj2
      rw [show xss.length * k+(j - olds.length)=j by omega] at this
      rw [this,← hu',List.getElem?_eq_getElem hj2]
    obtain ⟨h3,g3⟩:=h2.exHead (t:=tk) (k:=k) (b:=b) (xss:=xss++yss) (v:=.slice (some ⟨B,0,none⟩) (xss.length+yss.length) cap)
     (fun n0 k0 q=>by
      have:g.T tk=some (n0,k0):=q
      rw [q1] at this; cases this
      exact ⟨rfl,by omega⟩) (fun q=>by have:g.T tk=none:=q; rw [q1] at this; cases this) (fun _ B0 e=>by obtain ⟨off,m,c,e1,_⟩:=e; cases e1; exact .inl ⟨0,_,cap,ehd,hcap⟩) k7 hall (by rw [hlen]; exact hs1) (by rw [hlen]; exact hs2)
     (.inr ⟨B,cap,by rw [hlen],hcap,⟨by rw [hlen]; exact hroom,r2,by rw [hb.size]; exact r3,r4,⟨olds++news,c1,c2⟩,World.there_setCells r6 _ _ _,r7,fun t2 h2=>r8 t2 (h2.congr rfl rfl)⟩,fun t2 hne h2=>hne (h.exsEx t2 tk B (h2.congr rfl) ⟨by rw [hx]; rfl,0,_,cap,ehd,hcap⟩)⟩)
    ·rw [hlen] at h3 g3
     refine ⟨.slice (some ⟨B,0,none⟩) (xss.length+yss.length) cap,_, ?_,h3,g2.trans g3, ?_⟩
     ·rw [ehd]; exact hrun
     ·simp only [Rel,Qo,Ky]
      refine ⟨⟨_,_,rfl,hroom,fun _=>⟨_,_,rfl⟩⟩,_,Qi _ _ _,Nat.le_refl _,fun _=>.inr ⟨B,cap,0,by simp,hcap,hroom,by omega,by simp,by simp⟩⟩
  ·refine grow _ cap olds ehd o2 o1 ?_ (by omega)
   exact run_firstCells_some g.w.drew i.size xss.length _ _ _ olds (by rw [o1,k3]) (fun j u hu=>by rw [Addr.add_mid]; simpa using o3 j u hu)
end
end PM
/-
 THE PURE MACHINE, Qb: lists that only one token holds: birth, sharing, append.
-/
namespace PM
open Go Go.RowKit
section
variable {P:Program} {Gl:Nat→Option (List PV)} {S0:Bs} {w0:World} {s:PSt} {a:Act} {g:GG}
theorem Kbc {α:Type} (f:Nat→Option α) (i:Nat) (a b:Option α):upd (upd f i a) i b=upd f i b:=by
 funext x; simp only [upd]; split <;> rfl
/-- The list becomes data. -/
theorem Kw.exShare (h:Kw Gl S0 w0 s a g) {t k b:Nat} {xss:List (List PV)} (hx:s.X t=some (k,b,xss)) :
  ∃ S',Kw Gl S0 w0 { s with X:=upd s.X t none } a { g with S:=S' }∧GLe g { g with S:=S' }∧∀ o n v,o+n≤xss.length→Jcy (g.hd t) xss.length k o n v→Kg S' g.w (.lst .frozen k b ((xss.take (o+n)).drop o)) v:=by
 obtain ⟨q1,q2,q3,q4,q5,q6⟩:=h.exs t k b xss hx
 have hXB:∀ {S':Ua} t' B',XB (upd s.X t none) { g with S:=S' } t' B'→t'≠t∧XB s.X g t' B':=by
  rintro S' t' B' ⟨e1,e2⟩
  by_cases e:t'=t
  ·rw [e,Qi] at e1; cases e1
  ·exact ⟨e,by rwa [Kr _ _ _ _ e] at e1,e2⟩
 have htl:∀ o n,o+n≤xss.length→((xss.take (o+n)).drop o).length=n:=fun o n hn=>by rw [List.length_drop,List.length_take]; omega
 have lim:∀ o n,o+n≤xss.length→((xss.take (o+n)).drop o).length * b≤140737488351232∧((xss.take (o+n)).drop o).length≤140737488351232:=fun o n hn=>by
  rw [htl o n hn]
  exact ⟨Nat.le_trans (Nat.mul_le_mul_right _ (by omega)) q4,by omega⟩
 rcases q6 with ⟨e1,e2⟩|⟨B,cap,e1,hc,r1,r2,r3,r4,⟨vs,v1,v2⟩,r6,r7,r8⟩
 ·refine ⟨g.S,⟨{ h with exs:=fun t' k' b' xss' hx'=>?_,exsEx:=fun t1 t2 B h1 h2=>h.exsEx t1 t2 B (hXB t1 B h1).2 (hXB t2 B h2).2 },GLe.refl g,fun o n v hn hv=>?_⟩⟩
  ·by_cases e:t'=t
   ·have:upd s.X t none t'=some (k',b',xss'):=hx'
    rw [e,Qi] at this; cases this
   ·have:upd s.X t none t'=some (k',b',xss'):=hx'
    rw [Kr _ _ _ _ e] at this
    exact h.exs t' k' b' xss' this
  ·subst e2
   have hv':v=g.hd t:=by
    rcases hv with ⟨q,_⟩|⟨B,cap,off,q,hq,_⟩
    ·exact q
    ·rcases e1 with e1|⟨_,e1⟩
     ·rw [e1] at q; cases q
     ·rw [e1] at q; simp only [Value.slice.injEq] at q; omega
   simp only [Kg,List.take_nil,List.drop_nil,List.length_nil]
   refine ⟨by omega,by omega,by simp, ?_⟩
   exact .inl ⟨by rw [hv']; exact e1,trivial⟩
 ·have hle:GLe g { g with S:=fun B' o=>g.S B' o∨(B'=B∧o<xss.length * k) }:=⟨fun _ _ e=>.inl e,fun _ _ _=>rfl,fun _ _=>rfl,fun l ob e=>⟨rfl,ob,e,fun cs e=>⟨cs,e,rfl⟩⟩,fun t n k e=>⟨n,e,Nat.le_refl _,fun _=>rfl⟩⟩
  refine ⟨fun B' o=>g.S B' o∨(B'=B∧o<xss.length * k),{ hH:=h.hH,hT:=h.hT,defers:=h.defers,len:=h.len,tm:=fun i p v hp hv=>(h.tm i p v hp hv).mono hle,sub:=fun B' o e=>.inl (h.sub B' o e),new:=fun B' o e=>?_,lt:=fun B' o e=>?_,below:=h.below,objs:=fun l ob hob=>?_,inj:=h.inj,owns:=fun t' n' k' ht'=>?_,ownsEx:=fun t1 t2 B' h1 h2=>h.ownsEx t1 t2 B' (h1.congr rfl rfl) (h2.congr rfl rfl),ownsObj:=fun t' B' l h1 h2=>h.ownsObj t' B' l (h1.congr rfl rfl) h2,glob:=fun i cs hi=>(h.glob i cs hi).mono hle.S hle.cell hle.blk,exs:=fun t' k' b' xss' hx'=>?_,exsEx:=fun t1 t2 B h1 h2=>h.exsEx t1 t2 B (hXB t1 B h1).2 (hXB t2 B h2).2,fix:=h.fix,fixT:=h.fixT },hle,fun o n v hn hv=>?_⟩
  ·rcases e with e|⟨rfl,_⟩
   ·exact h.new B' o e
   ·exact .inr r2
  ·rcases e with e|⟨rfl,_⟩
   ·exact h.lt B' o e
   ·exact r3
  ·obtain ⟨k1,k2,k3,k4⟩:=h.objs l ob hob
   have hne:g.φ l≠B:=r7 l (by rw [show g.H l=some ob from hob]; rfl)
   exact ⟨k1,k2,fun o e=>e.elim (k3 o) fun q=>hne q.1,k4.mono hle (fun _=>rfl) (fun _=>rfl) (fun _ _ e=>e)⟩
  ·rcases h.owns t' n' k' ht' with hn|⟨B',off',cap',f1,f2,f3⟩
   ·exact .inl hn
   ·refine .inr ⟨B',off',cap',f1,f2,fun hlt=>?_⟩
    obtain ⟨p1,p2,p3,p4⟩:=f3 hlt
    refine ⟨p1,p2,p3,fun hk o e=>e.elim (p4 hk o) fun q=>?_⟩
    have ht:t'=t:=r8 t' ⟨n',k',off',cap',ht',by rw [← q.1]; exact f1,hlt⟩
    subst ht
    have hT:g.T t'=some (n',k'):=ht'
    rw [q1] at hT; cases hT
    exact absurd rfl hk
  ·have hx2:upd s.X t none t'=some (k',b',xss'):=hx'
   by_cases e:t'=t
   ·rw [e,Qi] at hx2; cases hx2
   ·rw [Kr _ _ _ _ e] at hx2
    refine (h.exs t' k' b' xss' hx2).mono hle rfl rfl (Nat.le_refl _) fun B' off n cap' f1 f2 f3 f4 f5 f6=>⟨fun _=>rfl,fun _=>rfl,fun o ho=>ho.elim (f4 o) fun q=>?_,f5,fun t2 h2=>f6 t2 (h2.congr rfl rfl)⟩
    exact e (h.exsEx t' t B ⟨by rw [hx2]; rfl,off,n,cap',by rw [← q.1]; exact f1⟩ ⟨by rw [hx]; rfl,0,_,cap,e1,hc⟩)
  ·have hels:Ws (fun B' o=>g.S B' o∨(B'=B∧o<xss.length * k)) g.w k xss B 0:=Yw q3 (v1.mono fun _ _ q=>⟨q.1.mono hle.S hle.cell hle.blk,q.2⟩) v2 (fun j hj=>.inr ⟨rfl,by rw [← Si q3,v1.1,Nat.zero_add]; exact hj⟩)
   obtain ⟨l1,l2⟩:=lim o n hn
   have hl:=htl o n hn
   simp only [Kg]
   refine ⟨l1,l2,by simp, ?_⟩
   rw [hl]
   rcases hv with ⟨f1,f2,f3,f4⟩|⟨B',cap',off,f1,_,f2,f3,f4,f5⟩
   ·subst f4; subst f3
    have hnil:(xss.take (0+0)).drop 0=[]:=by simp
    exact .inr ⟨B,0,cap,by rw [f1,e1,f2],Nat.zero_le _,by simp,by rw [hnil]; simp only [Ws]⟩
   ·rw [e1] at f1; cases f1
    refine .inr ⟨B,off,cap - o,f4,by omega,by simp, ?_⟩
    rcases f5 with rfl|f5
    ·have:=hels.slice o (o+n)
     rwa [Nat.zero_add] at this
    ·have hnil:(xss.take (o+n)).drop o=[]:=List.eq_nil_of_length_eq_zero (by rw [hl]; omega)
     rw [hnil]; simp only [Ws]
/-- A nil list, or an empty one without room, becomes one that only token t holds. -/
theorem Kw.exBorn (h:Kw Gl S0 w0 s a g) {t k b:Nat} {p:PV} {v:Value} (hv:Rel g p v) (hp:p=.nil∨∃ k' b',p=.lst .full k' b' []) (hT:s.T t=none) (ht:t<1000000000) (hk:k≠0) :
  ∃ g',Kw Gl S0 w0 { s with T:=upd s.T t (some (0,0)),X:=upd s.X t (some (k,b,[])) } a g'∧GLe g g'∧g'.w=g.w∧g'.S=g.S∧Rel g' (.ex t k b 0 0 0) v:=by
 have hN:Pg v:=by
  rcases hp with rfl|⟨k',b',rfl⟩
  ·have:v=.slice none 0 0:=by simpa [Rel,Qo,Ky,Kg] using hv
   exact .inl this
  ·have hD:Kg g.S g.w (.lst .full k' b' []) v:=hv
   simp only [Kg,List.length_nil] at hD
   obtain ⟨_,_,_,⟨hn,_⟩|⟨B,off,cap,rfl,_,h0,_⟩⟩:=hD
   ·exact hn
   ·rw [h0 trivial]; exact .inr ⟨⟨B,off,none⟩,rfl⟩
 have hgT:g.T t=none:=by rw [h.hT]; exact hT
 obtain ⟨h1,h2⟩:=h.exHead (t:=t) (k:=k) (b:=b) (xss:=[]) (v:=v) (fun n0 k0 e=>by rw [hgT] at e; cases e) (fun _=>ht) (fun q=>absurd hgT q) hk (by simp) (by simp) (by simp) (.inl ⟨hN,rfl⟩)
 refine ⟨_,h1,h2,rfl,rfl, ?_⟩
 simp only [Rel,Qo,Ky]
 refine ⟨?_,0,Qi _ _ _,Nat.le_refl _,fun _=>.inl ⟨by simp,rfl,rfl,rfl⟩⟩
 rcases hN with rfl|⟨_,rfl⟩
 ·exact ⟨_,_,rfl,Nat.le_refl _,fun q=>by omega⟩
 ·exact ⟨_,_,rfl,Nat.le_refl _,fun q=>by omega⟩
theorem Jyo (i t k b:Nat) (hs:s.get i=.nil) (hT:((s.T t).isNone&&decide (t<1000000000)&&(k != 0))=true):Wkr s (({ s with T:=upd s.T t (some (0,0)),X:=upd s.X t (some (k,b,[])) }:PSt).put (some i) (.ex t k b 0 0 0)):=fun Gl S0 w0 a w hi=>by
 obtain ⟨g,rfl,h⟩:=hi
 simp only [Bool.and_eq_true,decide_eq_true_eq] at hT
 have hv:=h.get i
 obtain ⟨g',h1,h2,h3,_,h4⟩:=h.exBorn (t:=t) (k:=k) (b:=b) hv (.inl hs) (by simpa using hT.1.1) hT.1.2 (by simpa using hT.2)
 exact ⟨g',h3,h1.reput i h4⟩
def Jx2 (s:PSt) (l off t k b:Nat) (cs:List PV):PSt:={ s with T:=upd s.T t (some (0,0)),X:=upd s.X t (some (k,b,[])),H:=upd s.H l (some (.cells (cs.set off (.ex t k b 0 0 0)))) }
/-- Cells of a variable are said otherwise. -/
theorem Kw.recells (h:Kw Gl S0 w0 s a g) {l off:Nat} {cs:List PV} {p:PV} (hl:s.H l=some (.cells cs)) (hp:∀ q v,cs[off]?=some q→Ya g q v→Ya g p v) :
  ∃ g',Kw Gl S0 w0 { s with H:=upd s.H l (some (.cells (cs.set off p))) } a g'∧GLe g g'∧g'.w=g.w∧g'.S=g.S∧g'.hd=g.hd∧g'.T=g.T:=by
 have hgl:g.H l=some (.cells cs):=by rw [h.hH]; exact hl
 obtain ⟨o1,o2,o3,vs,v1,v2,v3⟩:=h.objs l (.cells cs) hgl
 obtain ⟨h2,e2⟩:=h.setObj (l:=l) (ob':=.cells (cs.set off p)) (w':=g.w) hgl ⟨rfl,rfl,rfl,rfl,fun _ _=>rfl,rfl⟩ (fun cs' e=>by cases e; exact ⟨_,rfl,by simp⟩)
  (fun g' hg' hw'=>by
   refine ⟨vs,⟨by rw [List.length_set]; exact v1.1,fun i q v hq hv=>?_⟩,by rw [hw']; exact v2,by rw [hw']; exact v3⟩
   rw [List.getElem?_set] at hq
   by_cases hi:off=i
   ·subst hi
    rw [if_pos rfl] at hq
    split at hq
    ·rename_i hlt
     cases hq
     have hr:=v1.2 off _ v (List.getElem?_eq_getElem hlt) hv
     exact (hp _ v (List.getElem?_eq_getElem hlt) hr).mono hg'
    ·cases hq
   ·rw [if_neg hi] at hq
    exact (v1.2 i q v hq hv).mono hg')
 exact ⟨_,h2,e2,rfl,rfl,rfl,rfl⟩
/-! ### Sharing -/
def shTm (v:PV):List Nat→PSt→PSt
 | [],s=>s
 | i::r,s=>shTm v r { s with tm:=s.tm.set i v }
def shH (v:PV):List (Nat×Nat)→PSt→PSt
 | [],s=>s
 | x::r,s=>shH v r (match s.H x.1 with|some (.cells cs)=>{ s with H:=upd s.H x.1 (some (.cells (cs.set x.2 v))) }|_=>s)
def Lf (s:PSt) (x:Nat×Nat):Option PV:=match s.H x.1 with|some (.cells cs)=>cs[x.2]?|_=>none
theorem Kw.shTm {v:PV}:∀ (ws:List Nat) {s:PSt} {g:GG},Kw Gl S0 w0 s a g→(∀ i∈ws,Rel g v (Jzh a S0 i))→Kw Gl S0 w0 (shTm v ws s) a g
 | [],_,_,h,_=>h
 | i::r,_,_,h,hr=>Kw.shTm r (h.rput i (hr i (by simp))) fun j hj=>hr j (by simp [hj])
theorem Kw.shH {v:PV} (p0:PV) (hp0:p0≠v):∀ (hs:List (Nat×Nat)) {s:PSt} {g:GG},Kw Gl S0 w0 s a g→(∀ g' u,GLe g g'→g'.w=g.w→g'.T=g.T→g'.hd=g.hd→Ya g' p0 u→Ya g' v u)→(∀ x∈hs,Lf s x=some p0∨Lf s x=some v)→∃ g',Kw Gl S0 w0 (shH v hs s) a g'∧g'.w=g.w
 | [],_,g,h,_,_=>⟨g,h,rfl⟩
 | x::r,s,g,h,hr,hc=>by
  obtain ⟨l,off⟩:=x
  simp only [PM.shH]
  cases hl:s.H l with
  | none=>exact Kw.shH p0 hp0 r h hr fun y hy=>hc y (by simp [hy])
  | some ob =>
   cases ob with
   | map es=>exact Kw.shH p0 hp0 r h hr fun y hy=>hc y (by simp [hy])
   | iter b pos=>exact Kw.shH p0 hp0 r h hr fun y hy=>hc y (by simp [hy])
   | mapo es k b tk=>exact Kw.shH p0 hp0 r h hr fun y hy=>hc y (by simp [hy])
   | cells cs =>
    obtain ⟨g1,k1,k2,k3,_,k5,k6⟩:=h.recells (l:=l) (off:=off) (cs:=cs) (p:=v) hl (fun q u hq hrel=>by
     rcases hc (l,off) (by simp) with e|e <;> (simp only [Lf,hl] at e; rw [hq] at e; cases e)
     ·exact hr g u (GLe.refl g) rfl rfl rfl hrel
     ·exact hrel)
    obtain ⟨g2,m1,m2⟩:=Kw.shH p0 hp0 r k1 (fun g' u q1 q2 q3 q4 q5=>hr g' u (k2.trans q1) (q2.trans k3) (q3.trans k6) (q4.trans k5) q5) (fun y hy=>by
     have hy':=hc y (by simp [hy])
     obtain ⟨l',off'⟩:=y
     by_cases e:l'=l
     ·subst e
      simp only [Lf,hl,Qi] at hy' ⊢
      rw [List.getElem?_set]
      by_cases e2:off=off'
      ·subst e2
       rw [if_pos rfl]
       have hlt:off<cs.length:=by
        rcases hy' with e|e <;> exact (List.getElem?_eq_some_iff.1 e).1
       rw [if_pos hlt]; exact .inr rfl
      ·rw [if_neg e2]; exact hy'
     ·simp only [Lf,Kr _ _ _ _ e] at hy' ⊢
      exact hy')
    exact ⟨g2,m1,m2.trans k3⟩
/-- The list becomes data, wherever it stands whole in these slots and cells. -/
theorem Jvz (t k b N:Nat) (ws:List Nat) (hs:List (Nat×Nat)) {xss:List (List PV)} (hx:s.X t=some (k,b,xss)) (hT:s.T t=some (N,0)) (h1:(ws.map fun i=>s.tm.getD i .any)=ws.map fun _=>.ex t k b N 0 N) (h2:hs.map (Lf s)=hs.map fun _=>some (.ex t k b N 0 N)) :
  Wkr s (shH (.lst .frozen k b xss) hs (shTm (.lst .frozen k b xss) ws { s with X:=upd s.X t none })):=fun Gl S0 w0 a w hi=>by
 obtain ⟨g,rfl,h⟩:=hi
 obtain ⟨S',j1,j2,j3⟩:=h.exShare hx
 have hN:N=xss.length:=by
  have:=(h.exs t k b xss hx).1
  rw [h.hT,hT] at this; cases this; rfl
 subst hN
 have key:∀ v,Jcy (g.hd t) xss.length k 0 xss.length v→Kg S' g.w (.lst .frozen k b xss) v:=fun v hv=>by
  have:=j3 0 xss.length v (by omega) hv
  simpa using this
 have hrel:∀ v,Rel g (.ex t k b xss.length 0 xss.length) v→Jcy (g.hd t) xss.length k 0 xss.length v:=fun v hv=>by
  simp only [Rel,Qo,Ky] at hv
  obtain ⟨_,N',e1,e2,e3⟩:=hv
  rw [h.hT,hT] at e1; cases e1
  exact e3 rfl
 have k1:=Kw.shTm (v:=.lst .frozen k b xss) ws j1 (fun i hi=>by
  have hg:=h.rget i
  have:s.tm.getD i .any=.ex t k b xss.length 0 xss.length:=by
   have hm:=List.map_inj_left.1 h1 i hi
   exact hm
  rw [this] at hg
  exact Rel.of1 (Ky.of_data (key _ (hrel _ hg)) rfl))
 have htmH:∀ (ws:List Nat) (s:PSt),(PM.shTm (.lst .frozen k b xss) ws s).H=s.H:=fun ws=>by
  induction ws with
  | nil=>intro s; rfl
  | cons i r ih=>intro s; exact ih _
 have hT2:({ g with S:=S' }:GG).T t=some (xss.length,0):=by rw [← hT,← h.hT]
 obtain ⟨g2,k2,k3⟩:=Kw.shH (v:=.lst .frozen k b xss) (.ex t k b xss.length 0 xss.length) (by simp) hs k1 (fun g' u q1 q2 qT qh q3=>by
  have q3':=q3.1
  simp only [Ky] at q3'
  obtain ⟨_,N',f1,f2,f3⟩:=q3'
  rw [qT,hT2] at f1; cases f1
  refine ⟨?_,q3.2⟩
  have hv:=f3 rfl
  rw [qh] at hv
  exact Ky.of_data ((key u hv).mono q1.S (fun B o ho=>by rw [q2]) (fun B _=>by rw [q2])) rfl) (fun x hx=>by
  left
  simp only [Lf,htmH]
  exact List.map_inj_left.1 h2 x hx)
 exact ⟨g2,k3,k2⟩
end
end PM
/-
 THE PURE MACHINE, Qc: lists that only one token holds: the typed rules (append, elements, stores, slices, clear, make).
-/
namespace PM
open Go Go.RowKit
section
variable {P:Program} {Gl:Nat→Option (List PV)} {s:PSt} {d:Bool} {Ls r:List (Oper×Gd)} {Q:PSt→Prop} {α:Type} [Enc α]
theorem Jkr {o:Oper} {n:PSt} {v:PV} (hm:Jia o.op=false) (h:Ji1 P Gl o s n v) (h2:Qc P Gl false r ((Jao s n).put o.dst v) Q):Qc P Gl false ((o,.always)::r) s Q:=by
 simp only [Qc,Yr]; exact .inr ⟨rfl,hm,n,v,h,h2⟩
/-! ### Append -/
/-- The append at the head: what is appended to, cells and bytes of an element, what is appended. -/
def Jty (P:Program):List (Oper×Gd)→PSt→Option (PV×Nat×Nat×List (List PV))
 | (o,.always)::_,s=>match o.op with
  | .call c=>match c.callee,c.args.toList,c.argTypes.toList with
   | .builtin .append,[x,y],[t,t']=>match Jhx P t,Mi P t' with
    | some (_,k,b),true=>match Jzq k (s.ev y) with
     | some yss=>some (s.ev x,k,b,yss)
     | none=>none
    | _,_=>none
   | _,_,_=>none
  | _=>none
 | _,_=>none
theorem Jxp {ys M:List α} {L:List α} {x:PV} (hM:Vg L ys=some M) (h:Jty P Ls s=some (x,Enc.k α,Enc.b α,ys.map cellsOf)) {n:PSt} {v:PV}
  (hx:∀ (S0:Bs) (w0:World) (a:Act) (g:GG) (xv:Value),Kw Gl S0 w0 s a g→Rel g x xv→∃ s1 g1 tk,Kw Gl S0 w0 s1 a g1∧GLe g g1∧g1.w=g.w∧s1.X tk=some (Enc.k α,Enc.b α,L.map cellsOf)∧Rel g1 (.ex tk (Enc.k α) (Enc.b α) (L.map cellsOf).length 0 (L.map cellsOf).length) xv ∧
   Jao s n={ s1 with T:=upd s1.T tk (some ((M.map cellsOf).length,0)),X:=upd s1.X tk (some (Enc.k α,Enc.b α,M.map cellsOf)) }∧v=.ex tk (Enc.k α) (Enc.b α) (M.map cellsOf).length 0 (M.map cellsOf).length)
  (h2:Qc P Gl false (Ls.drop 1) ((Jao s n).put (Zu Ls) v) Q):Qc P Gl false Ls s Q:=by
 unfold Vg at hM
 split at hM
 ·rename_i hz
  cases hM
  unfold Jty at h
  split at h
  ·rename_i s0 o rest
   split at h
   ·rename_i c hop
    split at h
    ·rename_i x' y t t' h1 hargs htys
     split at h
     ·rename_i e k b hk ht'
      split at h
      ·rename_i yss hys
       simp only [Option.some.injEq,Prod.mk.injEq] at h
       obtain ⟨rfl,rfl,rfl,rfl⟩:=h
       refine Jkr (n:=n) (v:=v) (by rw [hop]; rfl) ?_ h2
       intro S0 w0 a g K Q' hg hK
       have hyr:=hg.ev y
       have hy:∃ b',Kg g.S g.w (.lst .frozen (Enc.k α) b' (ys.map cellsOf)) (a.eval y):=by
        unfold Jzq at hys
        split at hys
        ·rename_i hyn
         simp only [Option.some.injEq] at hys
         rw [hyn] at hyr
         rw [← hys]
         exact ⟨0,Kg.ofNil _ 0 (.inl rfl) hyr⟩
        ·rename_i oy k' b' yss' hyl
         split at hys
         ·rename_i hkk
          simp only [Option.some.injEq] at hys
          rw [hyl] at hyr
          rw [← hkk,← hys]
          exact ⟨b',Jhb hyr⟩
         ·cases hys
        ·cases hys
       obtain ⟨b',hy⟩:=hy
       obtain ⟨s1,g1,tk,i1,i2,i3,i4,i5,i6,i7⟩:=hx S0 w0 a g _ hg (hg.ev x')
       have hy1:Kg g1.S g1.w (.lst .frozen (Enc.k α) b' (ys.map cellsOf)) (a.eval y):=hy.mono i2.S i2.cell i2.blk
       obtain ⟨v',g',q1,q2,q3,q4⟩:=Jpa (P:=P) (ty:=o.type) i1 hk ht' i4 i5 hy1 (by simpa using hz.1) (by simpa using hz.2)
       rw [i3] at q1
       have hrun:(execOp a.eval o).run P g.w=.ok (.value v') g'.w:=by
        simp [execOp,hop,resolve,h1,Nh hargs,Nh htys,invoke,builtin,q1]
       unfold Oper.wp
       rw [hrun]
       refine hK v' g' ?_ (i2.trans q3) ?_
       ·rw [i6]; simpa [List.map_append] using q2
       ·rw [i7]; simpa [List.map_append] using q4
      ·cases h
     ·cases h
    ·cases h
   ·cases h
  ·cases h
 ·cases hM
/-- Is appended to a list that only token tk holds. -/
theorem Jyx {L ys M:List α} {tk N:Nat} (hM:Vg L ys=some M) (hX:s.X tk=some (Enc.k α,Enc.b α,L.map cellsOf)) (hT:s.T tk=some (N,0)) (h:Jty P Ls s=some (.ex tk (Enc.k α) (Enc.b α) N 0 N,Enc.k α,Enc.b α,ys.map cellsOf))
  (h2:Qc P Gl false (Ls.drop 1) (({ s with T:=upd s.T tk (some ((M.map cellsOf).length,0)),X:=upd s.X tk (some (Enc.k α,Enc.b α,M.map cellsOf)) }:PSt).put (Zu Ls) (.ex tk (Enc.k α) (Enc.b α) (M.map cellsOf).length 0 (M.map cellsOf).length)) Q):Qc P Gl false Ls s Q:=by
 refine Jxp (n:={ s with T:=upd s.T tk (some ((M.map cellsOf).length,0)),X:=upd s.X tk (some (Enc.k α,Enc.b α,M.map cellsOf)) }) hM h (fun S0 w0 a g xv hg hv=>?_) h2
 have hN:N=(L.map cellsOf).length:=by
  have:=(hg.exs _ _ _ _ hX).1
  rw [hg.hT,hT] at this; cases this; rfl
 subst hN
 exact ⟨s,g,tk,hg,GLe.refl g,rfl,hX,hv,rfl,rfl⟩
/-! ### Elements -/
def Fc (o n:Nat) (i:Int):Option Nat:=if 0≤i∧i<(n:Int) then some (o+i.toNat) else none
def Jzk (tk k N o n:Nat) (i:Int):Option (PV×Eff):=(if k=k∧0≤i∧i<(n:Int) then some (PV.eref tk k N (o+i.toNat) 0) else none).map fun v=>(v,Eff.none)
theorem Bw {tk k N o n j:Nat} {i:Int} (hj:Fc o n i=some j) (h:Xo P Gl Ls s=Jzk tk k N o n i) (h2:Qc P Gl d (Ls.drop 1) (s.put (Zu Ls) (.eref tk k N j 0)) Q):Qc P Gl d Ls s Q:=by
 unfold Fc at hj
 split at hj
 ·rename_i hc
  cases hj
  exact Ir (v:=.eref tk k N (o+i.toNat) 0) (e:=.none) (by rw [h,Jzk,if_pos ⟨rfl,hc⟩]; rfl) h2
 ·cases hj
def Eb (L:List α) (N j:Nat):Option α:=if L.length=N then L[j]? else none
def Kct (row:Bool) (n off:Nat) (cs:List PV):Option PV:=match row with|true=>if n≤(cs.drop off).length then some (PV.agg (Jk5 n (cs.drop off))) else none|false=>(cs.drop off).head?
def Jz8 (row:Bool) (n off k N j:Nat) (xss:List (List PV)):Option (PV×Eff):=(if k=k∧xss.length=N then (xss[j]?).bind fun cs=>match row with|true=>if n≤(cs.drop off).length then some (PV.agg (Jk5 n (cs.drop off))) else none|false=>(cs.drop off).head? else none).map fun v=>(v,Eff.none)
omit [Enc α] in
theorem Jod {L:List α} {N j:Nat} {y:α} (hy:Eb L N j=some y):L.length=N∧L[j]?=some y:=by
 unfold Eb at hy
 split at hy
 ·rename_i hN; exact ⟨hN,hy⟩
 ·cases hy
/-- (Part of) an element is read. -/
theorem Na {L:List α} {N j:Nat} {y:α} {v:PV} (hy:Eb L N j=some y) (row:Bool) (n off:Nat) (h:Xo P Gl Ls s=Jz8 row n off (Enc.k α) N j (L.map cellsOf)) (hv:Kct row n off (cellsOf y)=some v) (h2:Qc P Gl d (Ls.drop 1) (s.put (Zu Ls) v) Q):Qc P Gl d Ls s Q:=by
 obtain ⟨hN,hj⟩:=Jod hy
 refine Ir (v:=v) (e:=.none) ?_ h2
 rw [h,Jz8,if_pos ⟨rfl,by simpa using hN⟩,List.getElem?_map,hj]
 simp only [Option.map_some,Option.bind_some]
 unfold Kct at hv
 rw [hv]; rfl
def Jzs (tk k b N j off n:Nat) (ds:List PV) (xss:List (List PV)):Option (PV×Eff):=if true=true∧k=k∧xss.length=N∧n=n then (xss[j]?).bind fun cs=>if off+n≤cs.length then some (PV.any,Eff.xs tk (k,b,xss.set j (splice cs off ds))) else none else none
/-- (Part of) an element is written. -/
theorem Jiy {L:List α} {tk N j:Nat} {y y':α} (hy:Eb L N j=some y) (off n:Nat) (ds:List PV) (h:Xo P Gl Ls s=Jzs tk (Enc.k α) (Enc.b α) N j off n ds (L.map cellsOf)) (hv:(decide (off+n≤(cellsOf y).length),splice (cellsOf y) off ds)=(true,cellsOf y'))
  (h2:Qc P Gl d (Ls.drop 1) (({ s with X:=upd s.X tk (some (Enc.k α,Enc.b α,(L.set j y').map cellsOf)) }:PSt).put (Zu Ls) .any) Q):Qc P Gl d Ls s Q:=by
 obtain ⟨hN,hj⟩:=Jod hy
 obtain ⟨hv1,hv2⟩:=Prod.mk.inj hv
 refine Ir (v:=.any) (e:=.xs tk (Enc.k α,Enc.b α,(L.set j y').map cellsOf)) ?_ h2
 rw [h,Jzs,if_pos ⟨rfl,rfl,by simpa using hN,rfl⟩,List.getElem?_map,hj]
 simp only [Option.map_some,Option.bind_some]
 rw [if_pos (of_decide_eq_true hv1),hv2,List.map_set]
/-! ### Slices, clear, make -/
end
end PM
/-
 THE PURE MACHINE, Qd: lists that only one token holds: clear; calls that change a list in place (XCall), calls that return such a list (PCallX).
-/
namespace PM
open Go Go.RowKit
section
variable {P:Program} {Gl:Nat→Option (List PV)} {s:PSt} {d:Bool} {Ls r:List (Oper×Gd)} {Q:PSt→Prop} {α:Type} [Enc α]
end
end PM
/-
 THE PURE MACHINE, Qe: calls that change a list in place (XCall), calls that return a list that nobody else holds (PCallX).
-/
namespace PM
open Go Go.RowKit
theorem Wr.mono {E E':Nat→Prop} {a b:World} (h:Wr E a b) (hE:∀ B,E B→E' B):Wr E' a b:=⟨h.os,h.tape,h.output,h.size,fun k hk he=>h.block k hk fun e=>he (hE k e),h.dr⟩
/-- A list that nobody else holds. -/
structure XIn (S:Ua) (w:World) (k b:Nat) (xss:List (List PV)) (hv:Value):Prop where
 k0:k≠0
 ks:∀ cs∈xss,cs.length=k
 l1:xss.length * b≤140737488351232
 l2:xss.length≤140737488351232
 lies:(Pg hv∧xss=[])∨∃ B cap,hv=.slice (some ⟨B,0,none⟩) xss.length cap∧0<cap∧xss.length≤cap∧B<w.heap.size∧(∀ o,¬ S B o)∧(∃ us,Kz (fun p v=>Kg S w p v∧p.one=true) xss.flatten us∧w.rangeAt B 0 us)∧w.there B 0 (cap * k)
/-- A CONTRACT: called with a list that nobody else holds and with data, the function leaves other elements in it; it returns nothing (m = none), or the first m elements. -/
def Xv (P:Program) (Gl:Nat→Option (List PV)) (f:FuncId) (k b:Nat) (xss:List (List PV)) (args:List PV) (m:Option Nat) (xss':List (List PV)):Prop :=
 Jw3 P f∧∀ (S:Ua) (w:World) (hv:Value) (vs:Array Value),(∀ B o,S B o→B<w.heap.size)→(∀ i cs,Gl i=some cs→Gv S w cs i)→XIn S w k b xss hv→Kz (Kg S w) args vs.toList →
  Calls P f (#[hv]++vs) w fun e w'=>∃ v S',e=.returned v∧Wr (HB hv) w w'∧(∀ B o,S B o→S' B o)∧(∀ B o,S' B o→S B o∨(w.heap.size≤B∧B<w'.heap.size))∧XIn S' w' k b xss' hv∧xss'.length=xss.length∧∀ m',m=some m'→m'≤xss'.length∧Jcy hv xss'.length k 0 m' v
/-- A CONTRACT: called with data, the function returns a list that nobody else holds. -/
def PCallX (P:Program) (Gl:Nat→Option (List PV)) (f:FuncId) (args:List PV) (k b:Nat) (xss:List (List PV)):Prop :=
 Jw3 P f∧∀ (S:Ua) (w:World) (vs:Array Value),(∀ B o,S B o→B<w.heap.size)→(∀ i cs,Gl i=some cs→Gv S w cs i)→Kz (Kg S w) args vs.toList →
  Calls P f vs w fun e w'=>∃ v S',e=.returned v∧Nj w.heap.size w w'∧(∀ B o,S B o→S' B o)∧(∀ B o,S' B o→S B o∨(w.heap.size≤B∧B<w'.heap.size))∧XIn S' w' k b xss v∧∀ B,HB v B→w.heap.size≤B
section
variable {P:Program} {Gl:Nat→Option (List PV)} {S0:Bs} {w0:World} {s:PSt} {a:Act} {g:GG} {Ls r:List (Oper×Gd)} {Q:PSt→Prop}
theorem Kw.xin (h:Kw Gl S0 w0 s a g) {t k b:Nat} {xss:List (List PV)} (hx:s.X t=some (k,b,xss)):XIn g.S g.w k b xss (g.hd t):=by
 obtain ⟨_,q2,q3,q4,q5,q6⟩:=h.exs t k b xss hx
 refine ⟨q2,q3,q4,q5, ?_⟩
 rcases q6 with q|⟨B,cap,e1,hc,r1,r2,r3,r4,r5,r6,_⟩
 ·exact .inl q
 ·exact .inr ⟨B,cap,e1,hc,r1,r3,r4,r5,r6⟩
/-- What a call in place leaves. -/
theorem Kw.xafter (h:Kw Gl S0 w0 s a g) {t k b:Nat} {xss xss':List (List PV)} {w':World} {S':Ua} (hx:s.X t=some (k,b,xss)) (hb:Wr (HB (g.hd t)) g.w w') (hS1:∀ B o,g.S B o→S' B o) (hS2:∀ B o,S' B o→g.S B o∨(g.w.heap.size≤B∧B<w'.heap.size))
  (hin:XIn S' w' k b xss' (g.hd t)) (hl:xss'.length=xss.length):Kw Gl S0 w0 { s with X:=upd s.X t (some (k,b,xss')) } a { g with w:=w',S:=S' }∧GLe g { g with w:=w',S:=S' }:=by
 obtain ⟨q1,q2,q3,q4,q5,q6⟩:=h.exs t k b xss hx
 rcases q6 with ⟨e1,e2⟩|⟨B,cap,e1,hc,_⟩
 ·have hno:∀ B,¬ HB (g.hd t) B:=by
   rintro B ⟨off,m,cap,e,hc⟩
   rcases e1 with e1|⟨_,e1⟩
   ·rw [e1] at e; cases e
   ·rw [e1] at e; cases e; omega
  subst e2
  have e3:xss'=[]:=List.eq_nil_of_length_eq_zero (by rw [hl]; rfl)
  subst e3
  have hX2:upd s.X t (some (k,b,[]))=s.X:=by
   funext y
   by_cases e:y=t
   ·subst e; rw [Qi,hx]
   ·rw [Kr _ _ _ _ e]
  rw [hX2]
  exact h.grow (hb.toBelow hno) hS1 hS2
 ·have hE:∀ B',HB (g.hd t) B'→B'=B:=by
   rintro B' ⟨off,m,cap',e,_⟩
   rw [e1] at e; cases e; rfl
  rcases hin.lies with ⟨f1,f2⟩|⟨B',cap',f1,f2,f3,f4,f5,⟨us,f6,f7⟩,f8⟩
  ·rcases f1 with f1|⟨_,f1⟩
   ·rw [f1] at e1; cases e1
   ·rw [f1] at e1; simp only [Value.slice.injEq] at e1; omega
  ·rw [e1] at f1; simp only [Value.slice.injEq,Option.some.injEq,Addr.mk.injEq,and_true] at f1
   obtain ⟨rfl,_,rfl⟩:=f1
   exact h.exWorld hx e1 hc (hb.mono hE) hS1 hS2 hl hin.ks f8 f6 f7
theorem Jcy.ex {S:Ua} {w:World} {k b m:Nat} {xss:List (List PV)} {hv v:Value} (hin:XIn S w k b xss hv) (hm:m≤xss.length) (hv':Jcy hv xss.length k 0 m v):∃ x cap,v=.slice x m cap∧m≤cap∧(0<m→∃ B off,x=some ⟨B,off,none⟩):=by
 rcases hv' with ⟨e1,e2,_,e4⟩|⟨B,cap,off,e1,e2,e3,e4,e5,_⟩
 ·subst e1; subst e4
  rcases hin.lies with ⟨f1|⟨_,f1⟩,_⟩|⟨B',cap',f1,_⟩
  ·exact ⟨_,_,f1,Nat.le_refl _,fun q=>by omega⟩
  ·exact ⟨_,_,f1,Nat.le_refl _,fun q=>by omega⟩
  ·rw [e2] at f1; exact ⟨_,_,f1,Nat.zero_le _,fun q=>by omega⟩
 ·exact ⟨_,_,e5,by omega,fun _=>⟨_,_,rfl⟩⟩
/-- The call at the head: function, token, cells and bytes of an element, the view, the other arguments. -/
def Jpn : List (Oper×Gd)→PSt→Option (FuncId×(Nat×Nat×Nat×Nat×Nat)×List PV)
 | (o,.always)::_,s=>match Wz o.op with
  | some (x,y::args)=>match s.ev x,s.ev y,Lu (args.map s.ev) with
   | .fn f [],.ex t k b N 0 n,some as=>some (f,(t,k,b,N,n),as)
   | _,_,_=>none
  | _=>none
 | _,_=>none
theorem Jtx {f:FuncId} {t k b N:Nat} {xss xss':List (List PV)} {as:List PV} {m:Option Nat} (h0:(Jpn Ls s).map (fun x=>(x.1,x.2.1,Jbg as x.2.2))=some (f,(t,k,b,N,N),as)) (hX:s.X t=some (k,b,xss)) (hT:s.T t=some (N,0)) (hc:Xv P Gl f k b xss as m xss') :
  ∃ o rest,Ls=(o,.always)::rest∧Jia o.op=false ∧
   Ji1 P Gl o s { s with X:=upd s.X t (some (k,b,xss')) } .any ∧
   ∀ m',m=some m'→Ji1 P Gl o s { s with X:=upd s.X t (some (k,b,xss')) } (.ex t k b N 0 m')∧Ji1 P Gl o s { s with X:=upd s.X t none } (.lst .frozen k b (xss'.take m')):=by
 obtain ⟨y0,h,hy0⟩:=Option.map_eq_some_iff.1 h0
 clear h0
 obtain ⟨f0,p0,qs⟩:=y0
 simp only [Prod.mk.injEq] at hy0
 obtain ⟨rfl,rfl,hdc⟩:=hy0
 unfold Jpn at h
 split at h
 ·rename_i s0 o rest
  split at h
  ·rename_i x y args hco
   split at h
   ·rename_i f' t' k' b' N' n as' e1 e2 e3
    simp only [Option.some.injEq,Prod.mk.injEq] at h
    obtain ⟨rfl,⟨rfl,rfl,rfl,rfl,hn'⟩,rfl⟩:=h
    subst hn'
    obtain ⟨c,hop,hcal,hargs⟩:=Cr hco
    have hmv:Jia o.op=false:=by rw [hop]; rfl
    obtain ⟨⟨fn,hfn1,hfn2,hfn3⟩,hcall⟩:=hc
    have key:∀ (S0:Bs) (w0:World) (a:Act) (g:GG) (K:Act→World→Prop) (Q:Exit→Act→World→Prop),Kw Gl S0 w0 s a g →
      (∀ z g',Kw Gl S0 w0 { s with X:=upd s.X t' (some (k',b',xss')) } a g'→GLe g g'→(∀ m',m=some m'→m'≤xss'.length∧Jcy (g'.hd t') xss'.length k' 0 m' z∧g'.T t'=some (xss'.length,0))→K (a.put o.dst z) g'.w)→o.wp P a g.w K Q:=by
     intro S0 w0 a g K Q hg hK
     have hx:=hg.ev x
     rw [e1] at hx
     simp only [Rel,Qo,Ky] at hx
     obtain ⟨arr,hfv,hcaps⟩:=hx
     have harr:arr=#[]:=Array.toList_inj.1 (by rw [hcaps.nil_left])
     subst harr
     have hall:Kz (Rel g) (args.map s.ev) (args.map a.eval):=⟨by simp,fun i p v hp hv=>by
      rw [List.getElem?_map] at hp hv
      cases hi:args[i]? with
      | none=>rw [hi] at hp; cases hp
      | some y=>rw [hi] at hp hv; cases hp; cases hv; exact hg.ev y⟩
     have hD:=Xn (ps:=as) (Lz hall e3)
     rw [hdc] at hD
     have hy:=hg.ev y
     rw [e2] at hy
     simp only [Rel,Qo,Ky] at hy
     obtain ⟨_,N2,f1,f2,f3⟩:=hy
     obtain ⟨q1,q2,q3,q4,q5,q6⟩:=hg.exs t' k' b' xss hX
     have hNx:n=xss.length:=by
      have:=q1
      rw [hg.hT,hT] at this; simp only [Option.some.injEq,Prod.mk.injEq] at this; exact this.1
     rw [q1] at f1; cases f1
     have hvh:a.eval y=g.hd t':=by
      rcases f3 hNx with ⟨e1,_⟩|⟨B,cap,off,e1,e0,_,_,e2,e3⟩
      ·exact e1
      ·rw [e1,e2,show off=0 by omega]; simp
     have hrun:(execOp a.eval o).run P g.w=.ok (.enter f' (#[a.eval y]++(args.map a.eval).toArray)) g.w:=by
      have hname:fn.name ≠ "runtime.NumGoroutine" := by simpa using hfn2
      have hbody:fn.body≠none:=fun e=>by rw [e] at hfn3; cases hfn3
      have hca:c.args.map a.eval++#[]=#[a.eval y]++(args.map a.eval).toArray:=Array.toList_inj.1 (by simp [hargs])
      simp [execOp,hop,resolve,hcal,hfv,Deferred.ofValue,invoke,callFunc,run_program,hfn1,hname,hbody]
      simpa using hca
     unfold Oper.wp
     rw [hrun,hvh]
     refine (hcall g.S g.w (g.hd t') _ hg.lt hg.glob (hg.xin hX) (by simpa using hD)).mono fun e w' he=>?_
     obtain ⟨v,S',rfl,s1,s2,s3,s4,s5,s6⟩:=he
     obtain ⟨h1,g3⟩:=hg.xafter hX s1 s2 s3 s4 s5
     exact hK v _ h1 g3 fun m' e=>⟨(s6 m' e).1,(s6 m' e).2,by rw [s5]; exact q1⟩
    refine ⟨o,rest,rfl,hmv,fun S0 w0 a g K Q hg hK=>key S0 w0 a g K Q hg fun z g' i1 i2 _=>hK z g' i1 i2 (Rel.any _ _),fun m' hm'=>⟨fun S0 w0 a g K Q hg hK=>key S0 w0 a g K Q hg fun z g' i1 i2 i3=>?_,fun S0 w0 a g K Q hg hK=>key S0 w0 a g K Q hg fun z g' i1 i2 i3=>?_⟩⟩
    ·obtain ⟨j1,j2,j3⟩:=i3 m' hm'
     refine hK z g' i1 i2 ?_
     have hN:n=xss'.length:=by
      rw [i1.hT] at j3
      have:s.T t'=some (xss'.length,0):=j3
      rw [hT] at this; simp only [Option.some.injEq,Prod.mk.injEq] at this; exact this.1
     simp only [Rel,Qo,Ky]
     exact ⟨Jcy.ex (i1.xin (Qi _ _ _)) j1 j2,xss'.length,j3,Nat.le_of_eq hN,fun _=>by rw [hN]; exact j2⟩
    ·obtain ⟨j1,j2,_⟩:=i3 m' hm'
     obtain ⟨S',k1,k2,k3⟩:=i1.exShare (t:=t') (k:=k') (b:=b') (xss:=xss') (Qi _ _ _)
     refine hK z { g' with S:=S' } (by rw [Kbc] at k1; exact k1) (i2.trans k2) (Rel.of1 ?_)
     have:=k3 0 m' z (by omega) j2
     exact Ky.of_data (by simpa using this) rfl
   ·cases h
  ·cases h
 ·cases h
section
variable {α:Type} [Enc α]
theorem Ia {f:FuncId} {t N:Nat} {L L':List α} {as:List PV} (h:(Jpn Ls s).map (fun x=>(x.1,x.2.1,Jbg as x.2.2))=some (f,(t,Enc.k α,Enc.b α,N,N),as)) (hX:s.X t=some (Enc.k α,Enc.b α,L.map cellsOf)) (hT:s.T t=some (N,0))
  (hc:Xv P Gl f (Enc.k α) (Enc.b α) (L.map cellsOf) as none (L'.map cellsOf))
  (h2:Qc P Gl false (Ls.drop 1) (({ s with X:=upd s.X t (some (Enc.k α,Enc.b α,L'.map cellsOf)) }:PSt).put (Zu Ls) .any) Q):Qc P Gl false Ls s Q:=by
 obtain ⟨o,rest,rfl,h3,h4,_⟩:=Jtx h hX hT hc
 exact Jkr h3 h4 h2
end
/-! ### Whole functions -/
def T0 : Nat:=1000000000
def Jz3 (k b:Nat) (xss:List (List PV)) (args:List PV) (n:Nat):PSt:=⟨.ex T0 k b xss.length 0 xss.length::args++List.replicate (n - args.length - 1) .any,fun _=>none,upd (fun _=>none) T0 (some (xss.length,0)),upd (fun _=>none) T0 (some (k,b,xss)),0⟩
def Jqc (P:Program) (Gl:Nat→Option (List PV)) (rs:List ResultVar) (k b N:Nat) (m:Option Nat) (xss':List (List PV)) (s:PSt):Prop :=
 (s.X T0,s.T T0,Rm P Gl s rs)=(some (k,b,xss'),some (N,0),some (match m with|none=>[]|some m'=>[.ex T0 k b N 0 m']))
def Jxt (P:Program) (Gl:Nat→Option (List PV)) (rs:List ResultVar) (k b N:Nat) (m:Option Nat) (xss':List (List PV)):Exit→PSt→Prop
 | .normal,s=>Jqc P Gl rs k b N m xss' s
 | .ret,s=>Jqc P Gl rs k b N m xss' s
 | _,_=>False
theorem Jp9 {f:FuncId} {fn:Func} {c:Code} {args:List PV} {k b n:Nat} {xss xss':List (List PV)} {m:Option Nat} {rs:List ResultVar} (hf:P.funcs[f]?=some fn) (hname:(fn.name == "runtime.NumGoroutine")=false) (hb:fn.body=some c)
  (hn:fn.ntmps=n) (hrs:fn.results.toList=rs) (hflat:args.all Da=true) (h:pwp P Gl c (Jxt P Gl rs k b xss.length m xss') (Jz3 k b xss args n)):Xv P Gl f k b xss args m xss':=by
 refine ⟨⟨fn,hf,hname,by rw [hb]; rfl⟩,fun S w hv vs hS hglob hin hargs=>?_⟩
 subst hn; subst hrs
 refine calls_of_wp hf hb ?_
 have hsz:args.length=vs.size:=by rw [hargs.1]; simp
 have hview:Jcy hv xss.length k 0 xss.length hv:=by
  rcases hin.lies with ⟨_,q⟩|⟨B,cap,q1,q2,q3,_⟩
  ·exact .inl ⟨rfl,by rw [q]; rfl,rfl,by rw [q]; rfl⟩
  ·exact .inr ⟨B,cap,0,q1,q2,q3,by omega,by rw [q1]; simp,by simp⟩
 have hT0:∀ t x,upd (fun _=>none) T0 (some (xss.length,0)) t=some x→t=T0∧x=(xss.length,0):=fun t x e=>by
  by_cases q:t=T0
  ·rw [q,Qi] at e; cases e; exact ⟨q,rfl⟩
  ·rw [Kr _ _ _ _ q] at e; cases e
 have hX0:∀ t x,upd (fun _=>none) T0 (some (k,b,xss)) t=some x→t=T0∧x=(k,b,xss):=fun t x e=>by
  by_cases q:t=T0
  ·rw [q,Qi] at e; cases e; exact ⟨q,rfl⟩
  ·rw [Kr _ _ _ _ q] at e; cases e
 have hEB:∀ B,Bs.E ⟨S,fun _ _=>False,fun t v n=>t=T0∧v=hv∧n=xss.length,[],[]⟩ B→HB hv B:=by
  rintro B (⟨_,q⟩|⟨t,v,n,⟨_,rfl,_⟩,off,m,cap,q1,q2⟩)
  ·exact q.elim
  ·exact ⟨off,m,cap,q1,q2⟩
 have hinit:Inv Gl ⟨S,fun _ _=>False,fun t v n=>t=T0∧v=hv∧n=xss.length,[],[]⟩ w (Jz3 k b xss args fn.ntmps) { tmps:=(#[hv]++vs)++Array.replicate (fn.ntmps - (#[hv]++vs).size) undef,defers:=[] } w:=by
  refine ⟨⟨S,w,fun _=>0,fun _=>hv,fun _=>none,upd (fun _=>none) T0 (some (xss.length,0))⟩,rfl,{ hH:=rfl,hT:=rfl,defers:=rfl,len:=?_,tm:=fun i p v hp hv'=>?_,sub:=fun _ _ h=>h,new:=fun _ _ h=>.inl h,lt:=hS,below:=Wr.refl _ _,objs:=(fun l ob e=>by cases e),inj:=(fun l l' e=>by cases e),owns:=fun t n' k' e=>?_,ownsEx:=fun t t' B hs hs'=>?_,ownsObj:=(fun t B l _ hl=>by cases hl),glob:=hglob,exs:=fun t k' b' xss0 e=>?_,exsEx:=fun t t' B hs hs'=>?_,fix:=fun _ _ e=>e.elim,fixT:=fun t v n hF=>?_ }⟩
  ·simp [Jz3,hsz]; omega
  ·simp only [Jz3] at hp
   simp only [List.append_nil,Array.getElem?_toList] at hv'
   cases i with
   | zero =>
    simp only [List.cons_append,List.getElem?_cons_zero] at hp
    cases hp
    have hv0:v=hv:=by
     rw [Array.append_assoc,Array.getElem?_append_left (by simp)] at hv'
     simpa using hv'.symm
    subst hv0
    simp only [Rel,Qo,Ky]
    exact ⟨Jcy.ex hin (Nat.le_refl _) hview,_,Qi _ _ _,Nat.le_refl _,fun _=>hview⟩
   | succ i =>
    simp only [List.cons_append,List.getElem?_cons_succ] at hp
    have hv1:(vs++Array.replicate (fn.ntmps - (#[hv]++vs).size) undef)[i]?=some v:=by
     rw [Array.append_assoc,Array.getElem?_append_right (by simp)] at hv'
     simpa using hv'
    rw [List.getElem?_append] at hp
    by_cases hi:i<args.length
    ·rw [if_pos hi] at hp
     rw [Array.getElem?_append_left (by omega)] at hv1
     exact Rel.ofData (g:=⟨S,w,_,_,_,_⟩) (hargs.2 i p v hp (by simpa using hv1)) (List.all_eq_true.1 hflat p (List.mem_of_getElem? hp))
    ·rw [if_neg hi,List.getElem?_replicate] at hp
     split at hp
     ·cases hp; trivial
     ·cases hp
  ·obtain ⟨rfl,e2⟩:=hT0 t _ e
   cases e2
   rcases hin.lies with ⟨q1,q2⟩|⟨B,cap,q1,q2,q3,q4,_⟩
   ·exact .inl ⟨q1,by rw [q2]; rfl⟩
   ·exact .inr ⟨B,0,cap,q1,q3,fun _=>⟨fun q=>absurd rfl q,q4,fun j hj=>by simp at hj,fun q=>absurd rfl q⟩⟩
  ·obtain ⟨n1,k1,o1,c1,e1,_⟩:=hs
   obtain ⟨n2,k2,o2,c2,e2,_⟩:=hs'
   exact (hT0 t _ e1).1.trans (hT0 t' _ e2).1.symm
  ·obtain ⟨rfl,e2⟩:=hX0 t _ e
   cases e2
   refine ⟨(by show upd (fun _=>none) T0 (some (xss.length,0)) T0=some (xss.length,0); exact Qi _ _ _),hin.k0,hin.ks,hin.l1,hin.l2, ?_⟩
   rcases hin.lies with q|⟨B,cap,q1,q2,q3,q4,q5,q6,q7⟩
   ·exact .inl q
   ·refine .inr ⟨B,cap,q1,q2,q3,.inr (.inr ⟨T0,hv,xss.length,⟨rfl,rfl,rfl⟩,0,_,cap,q1,q2⟩),q4,q5,q6,q7,(fun l hl=>by cases hl),fun t' hs=>?_⟩
    obtain ⟨n1,k1,o1,c1,e1,_⟩:=hs
    exact (hT0 t' _ e1).1
  ·obtain ⟨x,hx⟩:=Option.isSome_iff_exists.1 hs.1
   obtain ⟨x',hx'⟩:=Option.isSome_iff_exists.1 hs'.1
   exact (hX0 t _ hx).1.trans (hX0 t' _ hx').1.symm
  ·obtain ⟨rfl,rfl,rfl⟩:=hF
   exact ⟨Nat.le_refl _,fun n0 e=>by
    have e':upd (fun _=>none) T0 (some (xss.length,0)) T0=some (n0,0):=e
    cases (hT0 _ _ e').2; exact ⟨Nat.le_refl _,fun _=>rfl,fun _ q=>.inl q⟩⟩
 refine Yo (fun e a' w' hq=>?_) (h ⟨S,fun _ _=>False,fun t v n=>t=T0∧v=hv∧n=xss.length,[],[]⟩ w _ w hinit)
 obtain ⟨s',hq,g,rfl,hg⟩:=hq
 have fin:Jqc P Gl fn.results.toList k b xss.length m xss' s'→a'.defers=[]∧∃ v,(results fn a'.tmps).run P g.w=.ok v g.w∧∃ v_1 S',Ending.returned v=.returned v_1∧Wr (HB hv) w g.w∧(∀ B o,S B o→S' B o)∧(∀ B o,S' B o→S B o∨(w.heap.size≤B∧B<g.w.heap.size))∧XIn S' g.w k b xss' hv∧xss'.length=xss.length∧∀ m',m=some m'→m'≤xss'.length∧Jcy hv xss'.length k 0 m' v_1:=by
  intro hfin
  simp only [Jqc,Prod.mk.injEq] at hfin
  obtain ⟨f1,f2,f3⟩:=hfin
  refine ⟨hg.defers, ?_⟩
  obtain ⟨us,r1,r2⟩:=Nc hg _ _ f3
  have hlen:xss'.length=xss.length:=by
   have:=(hg.exs _ _ _ _ f1).1
   rw [hg.hT,f2] at this; simp only [Option.some.injEq,Prod.mk.injEq] at this; exact this.1.symm
  have hgT:g.T T0=some (xss.length,0):=by rw [hg.hT]; exact f2
  have hhd:g.hd T0=hv:=(((hg.fixT T0 hv xss.length ⟨rfl,rfl,rfl⟩).2 _ hgT).2.1 rfl)
  have hxin:=hg.xin f1
  rw [hhd] at hxin
  refine ⟨if h:us.toArray.size=1 then us.toArray[0] else .tuple us.toArray, ?_,_,g.S,rfl,hg.below.mono hEB,hg.sub,fun B o ho=>?_,hxin,hlen,fun m' hm'=>?_⟩
  ·rw [Ex,Array.mapM_eq_mapM_toList]
   simp only [Sem.run_bind,Sem.run_map,r1,Result.andThen_ok,Sem.run_pure]
  ·rcases hg.new B o ho with e|e|e
   ·exact .inl e
   ·exact .inr ⟨e,hg.lt B o ho⟩
   ·obtain ⟨off,mm,cap,e1,e2⟩:=hEB B e
    rcases hxin.lies with ⟨q1|⟨_,q1⟩,_⟩|⟨B',cap',q1,_,_,_,q5,_⟩
    ·rw [q1] at e1; cases e1
    ·rw [q1] at e1; cases e1; omega
    ·rw [q1] at e1; cases e1; exact absurd ho (q5 o)
  ·subst hm'
   obtain ⟨v,vs',rfl,r3,r4⟩:=r2.cons_left
   rw [r4.nil_left]
   simp only [Rel,Qo,Ky] at r3
   obtain ⟨_,N',t1,t2,t3⟩:=r3
   rw [hgT] at t1; cases t1
   have ht3:=t3 rfl
   rw [hhd] at ht3
   refine ⟨?_, ?_⟩
   ·rw [hlen]
    rcases ht3 with ⟨_,q,_,q2⟩|⟨_,_,_,_,_,_,q,_⟩ <;> omega
   ·rw [hlen]
    simpa using ht3
 cases e with
 | normal=>exact fin hq
 | ret=>exact fin hq
 | exit id=>exact hq.elim
 | goto l=>exact hq.elim
 | panic ch=>exact hq.elim
 | outgrown=>exact hq.elim
end
end PM
/-
 THE PURE MACHINE, Qf: functions that return a list that nobody else holds.
-/
namespace PM
open Go Go.RowKit
section
variable {P:Program} {Gl:Nat→Option (List PV)} {s:PSt} {Q:Exit→PSt→Prop}
end
end PM
/-
 THE PURE MACHINE, Qg: iterators of strings; a map that will not change any more becomes data.
-/
namespace PM
open Go Go.RowKit
section
variable {P:Program} {Gl:Nat→Option (List PV)} {s:PSt} {d:Bool} {Ls r:List (Oper×Gd)} {Q:PSt→Prop} {S0:Bs} {w0:World} {a:Act} {g:GG}
/-! ### Strings, letter by letter -/
/-! ### A map that will not change any more becomes data -/
/-! ### A list that may be nil -/
theorem Jtj {α:Type} [Enc α] {L:List α} (h:(L.map cellsOf).isEmpty=true):L=[]:=by
 cases L with
 | nil=>rfl
 | cons x l=>simp at h
theorem Jh3 {α:Type} [Enc α] {L:List α} (hL:L=[]) {r:List α} (h:((Vg ([]:List α) L).bind fun m=>some m)=some r):(some []:Option (List α))=some r:=by
 subst hL
 simpa [Vg,Kn] using h
/-! ### Parts of strings -/
/-! ### Division -/
end
end PM
