import Derived.Test.YtfpoeepcomnjhaaGreatDoorPmV
/-
 THE PURE MACHINE, Q: lists that only one token holds: contents that change in place, growing, sharing.
-/
namespace PM
open Go Go.RowKit
section
variable {P:Program} {Gl:GL} {S0:Bs} {w0:World} {s:PSt} {a:Act} {g:GG}
theorem Kh.exHead(h:Kh Gl S0 w0 s a g){t k b:Nat}{xss:List (List PV)}{v:Value}(ht:∀ n0 k0,g.T t=some (n0,k0)->k0=0/\n0<xss.length)(hb9:g.T t=none->t<1000000000)(hBk:g.T t≠none->∀ B,HB v B->HB (g.hd t) B\/w0.heap.size<=B)(hk0:k≠0)(hk:∀ cs∈xss,cs.length=k)(hl1:xss.length * b<=140737488351232)(hl2:xss.length<=140737488351232)(hv:(Tg v/\xss=[])\/∃ B cap,v=.slice (some ⟨B,0,none⟩) xss.length cap/\0<cap/\ExB g S0.E w0.heap.size t k xss B cap/\∀ t',t'≠t->¬ XB s.X g t' B) :
  Kh Gl S0 w0 { s with T:=upd s.T t (some (xss.length,0)),X:=upd s.X t (some (k,b,xss)) } a { g with hd:=fun x=>if x=t then v else g.hd x,T:=upd g.T t (some (xss.length,0)) }/\GLe g { g with hd:=fun x=>if x=t then v else g.hd x,T:=upd g.T t (some (xss.length,0)) }:=by
 have hle:GLe g { g with hd:=fun x=>if x=t then v else g.hd x,T:=upd g.T t (some (xss.length,0)) }:=by
  refine ⟨fun _ _ h=>h,fun _ _ _=>rfl,fun _ _=>rfl,fun l ob h1=>⟨rfl,ob,h1,fun cs e=>⟨cs,e,rfl⟩⟩,fun t' n' k' h1=>?_⟩
  by_cases e:t'=t
  ·subst e;obtain ⟨rfl,hlt⟩:=ht _ _ h1;exact ⟨xss.length,Kr _ _ _,by omega,fun e=>by omega⟩
  ·exact ⟨n',by show upd g.T t _ t'=_; rw [Kc _ _ _ _ e]; exact h1,aJ _,fun _=>if_neg e⟩
 have hvB:∀ B off n cap,v=.slice (some ⟨B,off,none⟩) n cap->0<cap->off=0/\n=xss.length/\ExB g S0.E w0.heap.size t k xss B cap/\∀ t',t'≠t->¬ XB s.X g t' B:=by
  intro B off n cap e hc;rcases hv with ⟨e1|⟨_,e1⟩,_⟩|⟨B',cap',e1,_,e2⟩
  ·rw [e1] at e; cases e
  ·rw [e1] at e; cases e; omega
  ·rw [e1] at e; cases e; exact ⟨rfl,rfl,e2⟩
 have hspare:∀ t' B,Wi { g with hd:=fun x=>if x=t then v else g.hd x,T:=upd g.T t (some (xss.length,0)) } t' B->(t'=t/\∃ off n cap,v=.slice (some ⟨B,off,none⟩) n cap/\0<cap)\/(t'≠t/\Wi g t' B):=by
  rintro t' B ⟨n',k',off,cap,h1,h2,h3⟩
  by_cases e:t'=t
  ·subst e;simp only [if_true] at h2;exact .inl ⟨rfl,off,n',cap,h2,h3.pos⟩
  ·have h1':upd g.T t (some (xss.length,0)) t'=some (n',k'):=h1;rw [Kc _ _ _ _ e] at h1';simp only [if_neg e] at h2;exact .inr ⟨e,n',k',off,cap,h1',h2,h3⟩
 have hXB:∀ t' B,XB (upd s.X t (some (k,b,xss))) { g with hd:=fun x=>if x=t then v else g.hd x,T:=upd g.T t (some (xss.length,0)) } t' B->(t'=t/\∃ off n cap,v=.slice (some ⟨B,off,none⟩) n cap/\0<cap)\/(t'≠t/\XB s.X g t' B):=by
  rintro t' B ⟨h1,off,n,cap,h2,h3⟩
  by_cases e:t'=t
  ·subst e;simp only [if_true] at h2;exact .inl ⟨rfl,off,n,cap,h2,h3⟩
  ·rw [Kc _ _ _ _ e] at h1;simp only [if_neg e] at h2;exact .inr ⟨e,h1,off,n,cap,h2,h3⟩
 refine ⟨{ hH:=h.hH,hT:=by rw [<- h.hT],defers:=h.defers,len:=h.len,tm:=fun i p v hp hv=>(h.tm i p v hp hv).mono hle,sub:=h.sub,new:=h.new,lt:=h.lt,below:=h.below,objs:=fun l ob hob=>?_,inj:=h.inj,owns:=fun t' n' k' ht'=>?_,ownsEx:=fun t1 t2 B h1 h2=>?_,ownsObj:=fun t' B l hs hl=>?_,glob:=h.glob,exs:=fun t' k' b' xss' hx=>?_,exsEx:=fun t1 t2 B h1 h2=>?_,fix:=h.fix,fixT:=fun t' v' n' hF=>⟨(h.fixT t' v' n' hF).1,fun n0 e=>by
  have e':upd g.T t (some (xss.length,0)) t'=some (n0,0):=e;have h9:=(h.fixT t' v' n' hF).1
  by_cases q:t'=t
  ·rw [q,Kr] at e'; cases e';cases hTt:g.T t with
   | none=>have:=hb9 hTt; omega
   | some p=>
    obtain ⟨n1,k1⟩:=p;obtain ⟨rfl,hlt⟩:=ht n1 k1 hTt;have h8:=(h.fixT t' v' n' hF).2 n1 (by rw [q]; exact hTt);have:=h8.1;refine ⟨by omega,fun e=>by omega,fun B hB=>?_⟩;simp only [q,if_true] at hB;rcases hBk (by rw [hTt]; simp) B hB with hB|hB
    ·exact h8.2.2 B (by rw [q]; exact hB)
    ·exact .inr hB
  ·rw [Kc _ _ _ _ q] at e';simp only [if_neg q]; exact (h.fixT t' v' n' hF).2 n0 e'⟩ },hle⟩
 ·obtain ⟨k1,k2,k3,k4⟩:=h.objs l ob hob;exact ⟨k1,k2,k3,k4.mono hle (fun _=>rfl) (fun _=>rfl) (fun _ _ h=>h)⟩
 ·by_cases e:t'=t
  ·subst e;have h1:upd g.T t' (some (xss.length,0)) t'=some (n',k'):=ht';rw [Kr] at h1;cases h1;rcases hv with ⟨e1,e2⟩|⟨B,cap,e1,e2,e3,_⟩
   ·refine .inl ⟨?_,by rw [e2]; rfl⟩;show Tg (if t'=t' then v else g.hd t');rw [if_pos rfl]; exact e1
   ·exact .inr ⟨B,0,cap,(if_pos rfl).trans e1,e3.1,fun _=>⟨fun q=>absurd rfl q,e3.2.2.1,fun j hj=>by simp at hj,fun q=>absurd rfl q⟩⟩
  ·have h1:upd g.T t (some (xss.length,0)) t'=some (n',k'):=ht';rw [Kc _ _ _ _ e] at h1;have:=h.owns t' n' k' h1;unfold Jka at this ⊢;simp only [if_neg e];exact this
 ·rcases hspare t1 B h1 with ⟨e1,off,n,cap,e,hlt⟩|⟨e1,h1'⟩ <;> rcases hspare t2 B h2 with ⟨e2,off2,n2,cap2,e',hlt'⟩|⟨e2,h2'⟩
  ·rw [e1,e2]
  ·exact absurd ((hvB B off n cap e hlt).2.2.1.2.2.2.2.2.2.2 t2 h2') e2
  ·exact absurd ((hvB B off2 n2 cap2 e' hlt').2.2.1.2.2.2.2.2.2.2 t1 h1') e1
  ·exact h.ownsEx t1 t2 B h1' h2'
 ·rcases hspare t' B hs with ⟨e1,off,n,cap,e,hlt⟩|⟨e1,h1'⟩
  ·exact (hvB B off n cap e hlt).2.2.1.2.2.2.2.2.2.1 l hl
  ·exact h.ownsObj t' B l h1' hl
 ·by_cases e:t'=t
  ·subst e;have h1:upd s.X t' (some (k,b,xss)) t'=some (k',b',xss'):=hx;rw [Kr] at h1; cases h1;refine ⟨Kr _ _ _,hk0,hk,hl1,hl2, ?_⟩;rcases hv with ⟨e1,e2⟩|⟨B,cap,e1,e2,⟨f1,f2,f3,f4,f5,f6,f7,f8⟩,_⟩
   ·exact .inl ⟨by simp only [if_true]; exact e1,e2⟩
   ·refine .inr ⟨B,cap,(if_pos rfl).trans e1,e2,f1,f2,f3,f4, ?_,f6,f7,fun t2 h2=>?_⟩
    ·obtain ⟨us,u1,u2⟩:=f5;exact ⟨us,u1.mono fun _ _ q=>⟨q.1.mono hle.S hle.cell hle.blk,q.2⟩,u2⟩
    ·rcases hspare t2 B h2 with ⟨q,_⟩|⟨_,q⟩
     ·exact q
     ·exact f8 t2 q
  ·have h1:upd s.X t (some (k,b,xss)) t'=some (k',b',xss'):=hx;rw [Kc _ _ _ _ e] at h1;refine (h.exs t' k' b' xss' h1).mono hle (Kc _ _ _ _ e) (if_neg e) (aJ _) fun B' off' n' cap' e1 e2 e3 e4 e5 e6=>⟨fun _=>rfl,fun _=>rfl,e4,e5,fun t2 hs=>?_⟩
   rcases hspare t2 B' hs with ⟨_,off2,n2,cap2,q1,q2⟩|⟨_,q⟩
   ·exact absurd (show XB s.X g t' B' from ⟨by rw [h1]; rfl,off',n',cap',e1⟩) ((hvB B' off2 n2 cap2 q1 q2).2.2.2 t' e)
   ·exact e6 t2 q
 ·rcases hXB t1 B h1 with ⟨e1,off,n,cap,e,hlt⟩|⟨e1,h1'⟩ <;> rcases hXB t2 B h2 with ⟨e2,off2,n2,cap2,e',hlt'⟩|⟨e2,h2'⟩
  ·rw [e1,e2]
  ·exact absurd h2' ((hvB B off n cap e hlt).2.2.2 t2 e2)
  ·exact absurd h1' ((hvB B off2 n2 cap2 e' hlt').2.2.2 t1 e1)
  ·exact h.exsEx t1 t2 B h1' h2'
theorem Klx{w:World}{S:Qa}{e k b':Nat}{t':TypeId}{i:TypeInfo}(ht2:P.underlying t'=some (.slice e))(k3:i.size=k){yss:List (List PV)}{u:Value}(hy:Jv S w (.lst .frozen k b' yss) u) :
  ∃ news:List Value,Src P i.size t' u yss.length news w/\news.length=yss.length * k/\Kg (fun p v=>Jv S w p v/\p.one=true) yss.flatten news/\(∀ cs∈yss,cs.length=k)/\∃ yb yc,u=.slice yb yss.length yc:=by
 obtain ⟨ybase,ycap,rfl,y1,y2,y3,news,n1,n2,n3,n4⟩:=Jex (S:=S) (w:=w) hy;refine ⟨news, ?_,n1,n2,y2,ybase,ycap,rfl⟩;cases ybase with
 | none=>
  obtain ⟨q1,q2⟩:=y3 rfl;subst q2;subst q1;have hn0:news=[]:=aO (by simpa using n1);rw [hn0];exact Src.ofNil w ht2 0
 | some ad=>
  have hcase:(yss=[]/\news=[])\/∃ B off,ad=⟨B,off,none⟩:=by
   have:=hy;simp only [Jv] at this;obtain ⟨_,_,_,⟨_,q⟩|⟨B,off,_,q,_⟩⟩:=this
   ·subst q; exact .inl ⟨rfl,aO (by simpa using n1)⟩
   ·exact .inr ⟨B,off,by simp only [Value.slice.injEq,aP] at q; exact q.1⟩
  rcases hcase with ⟨q1,q2⟩|⟨B,off,rfl⟩
  ·subst q1; subst q2;exact Src.ofSlice w ht2 _ _ _ [] sG (fun j u hu=>by simp at hu) (fun u hu=>by cases hu)
  ·exact Src.ofSlice w ht2 _ _ _ news (by rw [n1,k3]) (fun j u hu=>by rw [Addr.add_mid]; exact (n4 B off rfl).2 j u hu) n3
theorem Juh(h:Kh Gl S0 w0 s a g){ty t t' e tk k b:Nat}{xss yss:List (List PV)}{v u:Value}(hk:Jhx P t=some (e,k,b))(ht':Rq P t'=true)(hx:s.X tk=some (k,b,xss))(hv:Rel g (.ex tk k b xss.length 0 xss.length) v){b':Nat}(hy:Jv g.S g.w (.lst .frozen k b' yss) u)(hs1:(xss.length+yss.length) * b<=Js)(hs2:xss.length+yss.length<=Js) :
  ∃ v' g',(Builtin.append_ #[t,t'] ty #[v,u]).run P g.w=.ok v' g'.w/\Kh Gl S0 w0 { s with T:=upd s.T tk (some (xss.length+yss.length,0)),X:=upd s.X tk (some (k,b,xss++yss)) } a g'/\GLe g g'/\Rel g' (.ex tk k b (xss.length+yss.length) 0 (xss.length+yss.length)) v':=by
 rw [Jqu] at hs1 hs2;obtain ⟨i,z,k1,k2,k3,k4,k5,k6,k7⟩:=Tf hk;obtain ⟨e',ht2⟩:=Pg ht';obtain ⟨q1,_,q3,q4,q5,q6⟩:=h.exs tk k b xss hx;simp only [Rel,Ks,Kk] at hv;obtain ⟨_,N',hT',_,hview⟩:=hv;rw [q1] at hT'; cases hT';have hvh:v=g.hd tk:=by
  rcases hview rfl with ⟨e1,_⟩|⟨B,cap,off,e1,e0,_,_,e2,e3⟩
  ·exact e1
  ·rw [e1,e2,show off=0 by omega]; simp
 subst hvh;obtain ⟨news,hsrc,n1,n2,n3,yb,yc,hu⟩:=Klx (P:=P) ht2 k3 hy;have hall:∀ cs∈xss++yss,cs.length=k:=fun cs hcs=>(aY.1 hcs).elim (q3 cs) (n3 cs);have hlen:(xss++yss).length=xss.length+yss.length:=aH;have hone:∀ {S:Qa} {w:World} {ps:List PV} {us:List Value},Kg (fun p v=>Jv S w p v/\p.one=true) ps us->∀ u∈us,u.oneCell'=true:=fun hA u hu=>by
  obtain ⟨j,hj⟩:=aS hu;obtain ⟨p,hp,hr⟩:=hA.left hj;exact (hr.1.oneCell hr.2).1
 have hTX:yss=[]->({ s with T:=upd s.T tk (some (xss.length+yss.length,0)),X:=upd s.X tk (some (k,b,xss++yss)) }:PSt)=s:=fun hm=>by
  subst hm;have e1:upd s.T tk (some (xss.length,0))=s.T:=by
   funext x
   by_cases hx':x=tk
   ·subst hx'; rw [Kr,<- h.hT,q1]
   ·rw [Kc _ _ _ _ hx']
  have e2:upd s.X tk (some (k,b,xss))=s.X:=by
   funext x
   by_cases hx':x=tk
   ·subst hx'; rw [Kr,hx]
   ·rw [Kc _ _ _ _ hx']
  simp [e1,e2]
 -- a new block
 have grow:∀ (base:Option Addr) (cap:Nat) (olds:List Value),g.hd tk=.slice base xss.length cap->Kg (fun p v=>Jv g.S g.w p v/\p.one=true) xss.flatten olds->olds.length=xss.length * k->(Builtin.firstCells i.size xss.length (.slice base xss.length cap)).run P g.w.drew=.ok olds.toArray g.w.drew->cap<xss.length+yss.length ->
   ∃ v' g',(Builtin.append_ #[t,t'] ty #[g.hd tk,u]).run P g.w=.ok v' g'.w/\Kh Gl S0 w0 { s with T:=upd s.T tk (some (xss.length+yss.length,0)),X:=upd s.X tk (some (k,b,xss++yss)) } a g'/\GLe g g'/\Rel g' (.ex tk k b (xss.length+yss.length) 0 (xss.length+yss.length)) v':=by
  intro base cap olds ehd o2 o1 holds hroom;have hmpos:0<yss.length:=by
   rcases q6 with ⟨e1|⟨_,e1⟩,e2⟩|⟨B,cap',e1,e2,e3,_⟩
   ·rw [e1,e2] at ehd; simp only [Value.slice.injEq] at ehd; rw [e2] at hroom; simp only [aF] at hroom; omega
   ·rw [e1,e2] at ehd; simp only [Value.slice.injEq] at ehd; rw [e2] at hroom; simp only [aF] at hroom; omega
   ·rw [e1] at ehd; simp only [Value.slice.injEq] at ehd; omega
  have hneed:xss.length+yss.length<=grownCap g.w (xss.length+yss.length) cap e:=grownCap_ge _ _ _ _;have hrun:=run_append_grow_src g.w t t' ty e i z k1 k2 k5 base xss.length cap olds holds u _ news hsrc oG oG (growslice_fits oG (by rw [k4]; omega));generalize hC:grownCap g.w (xss.length+yss.length) cap e=C at *;generalize hA:((olds++news).toArray++Builtin.zeroCells z.cells (C - (xss.length+yss.length)))=arr at *;have h1l:(olds++news).length=(xss.length+yss.length) * k:=by rw [aH,o1,n1,cT]
  have harr:arr.size=C * k:=by
   rw [<- hA];have h2:C=(xss.length+yss.length)+(C - (xss.length+yss.length)):=by omega
   rw [dU,List.size_toArray,size_zeroCells,k6,h1l,<- cT];congr 1;omega
  obtain ⟨h1,g1⟩:=h.drew;obtain ⟨h2,g2⟩:=h1.grow' (Oz g.w.drew (.cells arr e));have gle:=g1.trans g2;have c1:Kg (fun p v=>Jv g.S (g.w.drew.alloc (.cells arr e)) p v/\p.one=true) (xss++yss).flatten (olds++news):=by
   rw [dK];exact (o2.monoD gle.S gle.cell gle.blk).append (n2.monoD gle.S gle.cell gle.blk)
  have c2:(g.w.drew.alloc (.cells arr e)).rangeAt g.w.heap.size 0 (olds++news):=by
   intro j u' hu';have:=Mw g.w.drew arr e j u' (by
    rw [<- hA];have hj:j<(olds++news).length:=(aG.1 hu').1;simp only [cV];rw [bM hj];exact hu')
   simpa using this
  have c3:(g.w.drew.alloc (.cells arr e)).there g.w.heap.size 0 (C * k):=fun j hj=>by
   have:=Xq g.w.drew arr e j (by rw [harr]; exact hj)
   simpa using this
  obtain ⟨h3,g3⟩:=h2.exHead (t:=tk) (k:=k) (b:=b) (xss:=xss++yss) (v:=.slice (some ⟨g.w.heap.size,0,none⟩) (xss.length+yss.length) C)
   (fun n0 k0 q=>by
    have:g.T tk=some (n0,k0):=q;rw [q1] at this; cases this;exact ⟨rfl,by omega⟩) (fun q=>by have:g.T tk=none:=q; rw [q1] at this; cases this) (fun _ B0 e=>by obtain ⟨off,m,c,e1,_⟩:=e; cases e1; exact .inr h.below.size) k7 hall (by rw [hlen]; exact hs1) (by rw [hlen]; exact hs2)
   (.inr ⟨g.w.heap.size,C,by rw [hlen],by omega,⟨by rw [hlen]; exact hneed,.inl h.below.size,by simp,fun o ho=>(by have:=h.lt _ _ ho; omega),⟨olds++news,c1,c2⟩,c3,fun l hl=>h.phi_lt l hl,fun t2 h2=>(h.spare_lt t2 (h2.congr rfl rfl)).elim⟩,fun t2 _ h2=>h.xb_lt t2 (h2.congr rfl)⟩)
  ·rw [hlen] at h3 g3;refine ⟨.slice (some ⟨g.w.heap.size,0,none⟩) (xss.length+yss.length) C,_, ?_,h3,gle.trans g3, ?_⟩
   ·rw [ehd]; exact hrun
   ·simp only [Rel,Ks,Kk];refine ⟨⟨_,_,rfl,hneed,fun _=>⟨_,_,rfl⟩⟩,_,Kr _ _ _,aJ _,fun _=>.inr ⟨g.w.heap.size,C,0,by simp,by omega,hneed,by omega,by simp,by simp⟩⟩
 -- nothing appended
 have same:yss=[]->(Builtin.append_ #[t,t'] ty #[g.hd tk,u]).run P g.w=.ok (g.hd tk) g.w->∃ v' g',(Builtin.append_ #[t,t'] ty #[g.hd tk,u]).run P g.w=.ok v' g'.w/\Kh Gl S0 w0 { s with T:=upd s.T tk (some (xss.length+yss.length,0)),X:=upd s.X tk (some (k,b,xss++yss)) } a g'/\GLe g g'/\Rel g' (.ex tk k b (xss.length+yss.length) 0 (xss.length+yss.length)) v':=fun hm hrun=>by
  refine ⟨_,g,hrun,by rw [hTX hm]; exact h,GLe.refl g, ?_⟩;subst hm;simp only [Rel,Ks,Kk,aF,cU];refine ⟨?_,_,q1,aJ _,hview⟩;rcases q6 with ⟨e1|⟨_,e1⟩,e2⟩|⟨B,cap',e1,e2,e3,_⟩
  ·exact ⟨none,0,by rw [e1,e2]; rfl,by rw [e2]; simp,fun hp=>by rw [e2] at hp; simp at hp⟩
  ·exact ⟨_,0,by rw [e1,e2]; rfl,by rw [e2]; simp,fun hp=>by rw [e2] at hp; simp at hp⟩
  ·exact ⟨_,_,e1,e3,fun _=>⟨_,_,rfl⟩⟩
 rcases q6 with ⟨enil,exss⟩|⟨B,cap,ehd,hcap,r1,r2,r3,r4,⟨olds,o2,o3⟩,r6,r7,r8⟩
 ·have ehd:∃ base,g.hd tk=.slice base xss.length 0:=by
   rcases enil with e1|⟨ad,e1⟩
   ·exact ⟨none,by rw [e1,exss]; rfl⟩
   ·exact ⟨_,by rw [e1,exss]; rfl⟩
  obtain ⟨base,ehd⟩:=ehd;have hxl:xss.length=0:=by rw [exss]; rfl
  by_cases hm:yss=[]
  ·refine same hm ?_;have hnews:news=[]:=aO (by rw [n1,hm]; simp);rw [hnews,hm] at hsrc;rw [ehd,hxl];have hcl:=hsrc.cells;have hcl2:=hsrc.len;simp only [aF] at hcl hcl2;subst hm;subst hu;simp only [aF] at hcl;cases base <;> simp [Builtin.append_,run_underlying k1,run_underlying ht2,Go.sizeOf,typeInfo,k2,Builtin.lenOf,hcl,storeCells]
  ·have hfl:xss.flatten=[]:=by rw [exss]; rfl
   refine grow base 0 [] ehd (by rw [hfl]; exact .nil) (by rw [hxl]; simp) ?_ (by have:=List.length_pos_iff.2 hm; omega);rw [hxl];cases base with
   | none=>exact run_firstCells_none g.w.drew _ _ _ _
   | some ad=>exact run_firstCells_some g.w.drew i.size 0 ad _ _ [] sG sG
 ·have o1:olds.length=xss.length * k:=by
   rw [<- Jaj q3,o2.1]
  by_cases hroom:xss.length+yss.length<=cap
  ·by_cases hm:yss=[]
   ·refine same hm ?_;have hnews:news=[]:=aO (by rw [n1,hm]; simp);rw [hnews,hm] at hsrc;rw [ehd];have:=run_append_room_src g.w t t' ty e i k1 k2 B 0 xss.length cap _ _ [] hsrc (by simpa using r1) sG sG
    simpa [World.setCells] using this
   ·have hmpos:0<yss.length:=List.length_pos_iff.2 hm;have hck:cap * k=xss.length * k+(cap - xss.length) * k:=by rw [<- cT]; congr 1; omega
    have hmk:yss.length * k<=(cap - xss.length) * k:=bV _ oG;have hthere:∀ j,j<news.length->(g.w.cell? ⟨B,xss.length * k+j,none⟩).isSome=true/\g.w.frozen? ⟨B,xss.length * k+j,none⟩=false:=fun j hj=>by
     have:=r6 (xss.length * k+j) oG
     rwa [aW] at this
    have hrun:=run_append_room_src g.w t t' ty e i k1 k2 B 0 xss.length cap u _ news hsrc hroom (fun j hj=>by rw [k3,aW]; exact (hthere j hj).1) (fun j hj=>by rw [k3,aW]; exact (hthere j hj).2);rw [k3,aW] at hrun;have hb:=Pr g.w B (xss.length * k) news;have hbe:Wr (·=B) g.w (g.w.setCells B (xss.length * k) news):=⟨hb.os,hb.tape,hb.output,dT hb.size.symm,fun j _ hj=>hb.block j hj,DR.of_le (dT hb.drawn.symm)⟩
    obtain ⟨h2,g2⟩:=h.exWorld (S':=g.S) hx ehd hcap hbe (fun _ _ e=>e) (fun _ _ e=>.inl e) rfl q3 (World.there_setCells r6 _ _ _) (o2.monoD (fun _ _ e=>e) (fun B' o ho=>hb.cell fun e=>r4 o (e▸ho)) fun B' ho=>hb.block _ fun e=>r4 0 (e▸ho 0)) (fun j v hj=>by
     have hj':j<olds.length:=(aG.1 hj).1;rw [World.cell?_setCells_out _ _ _ _ _ (fun _ _=>.inl (by show 0+j<_; omega))];exact o3 j v hj)
    have hX2:({ s with X:=upd s.X tk (some (k,b,xss)) }:PSt)=s:=by
     have e2:upd s.X tk (some (k,b,xss))=s.X:=by
      funext x
      by_cases hx':x=tk
      ·subst hx'; rw [Kr,hx]
      ·rw [Kc _ _ _ _ hx']
     rw [e2]
    rw [hX2] at h2;have c1:Kg (fun p v=>Jv g.S (g.w.setCells B (xss.length * k) news) p v/\p.one=true) (xss++yss).flatten (olds++news):=by
     rw [dK];exact (o2.monoD g2.S g2.cell g2.blk).append (n2.monoD g2.S g2.cell g2.blk)
    have c2:(g.w.setCells B (xss.length * k) news).rangeAt B 0 (olds++news):=by
     intro j u' hu';rw [aW];rw [aU] at hu'
     by_cases hj:j<olds.length
     ·rw [if_pos hj] at hu';rw [World.cell?_setCells_out _ _ _ _ _ (fun _ _=>.inl (by show j<_; omega))];have:=o3 j u' hu'
      rwa [aW] at this
     ·rw [if_neg hj] at hu';have hj2:j - olds.length<news.length:=(aG.1 hu').1;have:=World.cell?_setCells_in B news (xss.length * k) g.w (fun i hi=>(hthere i hi).1) (j - olds.length) hj2;rw [show xss.length * k+(j - olds.length)=j by omega] at this;rw [this,<- hu',aB hj2]
    obtain ⟨h3,g3⟩:=h2.exHead (t:=tk) (k:=k) (b:=b) (xss:=xss++yss) (v:=.slice (some ⟨B,0,none⟩) (xss.length+yss.length) cap)
     (fun n0 k0 q=>by
      have:g.T tk=some (n0,k0):=q;rw [q1] at this; cases this;exact ⟨rfl,by omega⟩) (fun q=>by have:g.T tk=none:=q; rw [q1] at this; cases this) (fun _ B0 e=>by obtain ⟨off,m,c,e1,_⟩:=e; cases e1; exact .inl ⟨0,_,cap,ehd,hcap⟩) k7 hall (by rw [hlen]; exact hs1) (by rw [hlen]; exact hs2)
     (.inr ⟨B,cap,by rw [hlen],hcap,⟨by rw [hlen]; exact hroom,r2,by rw [hb.size]; exact r3,r4,⟨olds++news,c1,c2⟩,World.there_setCells r6 _ _ _,r7,fun t2 h2=>r8 t2 (h2.congr rfl rfl)⟩,fun t2 hne h2=>hne (h.exsEx t2 tk B (h2.congr rfl) ⟨by rw [hx]; rfl,0,_,cap,ehd,hcap⟩)⟩)
    ·rw [hlen] at h3 g3;refine ⟨.slice (some ⟨B,0,none⟩) (xss.length+yss.length) cap,_, ?_,h3,g2.trans g3, ?_⟩
     ·rw [ehd]; exact hrun
     ·simp only [Rel,Ks,Kk];refine ⟨⟨_,_,rfl,hroom,fun _=>⟨_,_,rfl⟩⟩,_,Kr _ _ _,aJ _,fun _=>.inr ⟨B,cap,0,by simp,hcap,hroom,by omega,by simp,by simp⟩⟩
  ·refine grow _ cap olds ehd o2 o1 ?_ oG;exact run_firstCells_some g.w.drew i.size xss.length _ _ _ olds (by rw [o1,k3]) (fun j u hu=>by rw [Addr.add_mid]; simpa using o3 j u hu)
end
end PM
namespace PM
open Go Go.RowKit
section
variable {P:Program} {Gl:GL} {S0:Bs} {w0:World} {s:PSt} {a:Act} {g:GG}
theorem Kbg{α:Type}(f:Nat->Option α)(i:Nat)(a b:Option α):upd (upd f i a) i b=upd f i b:=by
 funext x; simp only [upd]; split <;> rfl
theorem Kh.exShare(h:Kh Gl S0 w0 s a g){t k b:Nat}{xss:List (List PV)}(hx:s.X t=some (k,b,xss)) :
  ∃ S',Kh Gl S0 w0 { s with X:=upd s.X t none } a { g with S:=S' }/\GLe g { g with S:=S' }/\∀ o n v,o+n<=xss.length->Jba (g.hd t) xss.length k o n v->Jv S' g.w (.lst .frozen k b ((xss.take (o+n)).drop o)) v:=by
 obtain ⟨q1,q2,q3,q4,q5,q6⟩:=h.exs t k b xss hx;have hXB:∀ {S':Qa} t' B',XB (upd s.X t none) { g with S:=S' } t' B'->t'≠t/\XB s.X g t' B':=by
  rintro S' t' B' ⟨e1,e2⟩
  by_cases e:t'=t
  ·rw [e,Kr] at e1; cases e1
  ·exact ⟨e,by rwa [Kc _ _ _ _ e] at e1,e2⟩
 have htl:∀ o n,o+n<=xss.length->((xss.take (o+n)).drop o).length=n:=fun o n hn=>by rw [cI,aT]; omega
 have lim:∀ o n,o+n<=xss.length->((xss.take (o+n)).drop o).length * b<=140737488351232/\((xss.take (o+n)).drop o).length<=140737488351232:=fun o n hn=>by
  rw [htl o n hn];exact ⟨bG (bV _ oG) q4,by omega⟩
 rcases q6 with ⟨e1,e2⟩|⟨B,cap,e1,hc,r1,r2,r3,r4,⟨vs,v1,v2⟩,r6,r7,r8⟩
 ·refine ⟨g.S,⟨{ h with exs:=fun t' k' b' xss' hx'=>?_,exsEx:=fun t1 t2 B h1 h2=>h.exsEx t1 t2 B (hXB t1 B h1).2 (hXB t2 B h2).2 },GLe.refl g,fun o n v hn hv=>?_⟩⟩
  ·by_cases e:t'=t
   ·have:upd s.X t none t'=some (k',b',xss'):=hx';rw [e,Kr] at this; cases this
   ·have:upd s.X t none t'=some (k',b',xss'):=hx';rw [Kc _ _ _ _ e] at this;exact h.exs t' k' b' xss' this
  ·subst e2;have hv':v=g.hd t:=by
    rcases hv with ⟨q,_⟩|⟨B,cap,off,q,hq,_⟩
    ·exact q
    ·rcases e1 with e1|⟨_,e1⟩
     ·rw [e1] at q; cases q
     ·rw [e1] at q; simp only [Value.slice.injEq] at q; omega
   simp only [Jv,List.take_nil,List.drop_nil,aF];refine ⟨by omega,by omega,by simp, ?_⟩;exact .inl ⟨by rw [hv']; exact e1,trivial⟩
 ·have hle:GLe g { g with S:=fun B' o=>g.S B' o\/(B'=B/\o<xss.length * k) }:=⟨fun _ _ e=>.inl e,fun _ _ _=>rfl,fun _ _=>rfl,fun l ob e=>⟨rfl,ob,e,fun cs e=>⟨cs,e,rfl⟩⟩,fun t n k e=>⟨n,e,aJ _,fun _=>rfl⟩⟩
  refine ⟨fun B' o=>g.S B' o\/(B'=B/\o<xss.length * k),{ hH:=h.hH,hT:=h.hT,defers:=h.defers,len:=h.len,tm:=fun i p v hp hv=>(h.tm i p v hp hv).mono hle,sub:=fun B' o e=>.inl (h.sub B' o e),new:=fun B' o e=>?_,lt:=fun B' o e=>?_,below:=h.below,objs:=fun l ob hob=>?_,inj:=h.inj,owns:=fun t' n' k' ht'=>?_,ownsEx:=fun t1 t2 B' h1 h2=>h.ownsEx t1 t2 B' (h1.congr rfl rfl) (h2.congr rfl rfl),ownsObj:=fun t' B' l h1 h2=>h.ownsObj t' B' l (h1.congr rfl rfl) h2,glob:=fun i cs hi=>(h.glob i cs hi).mono hle.S hle.cell hle.blk,exs:=fun t' k' b' xss' hx'=>?_,exsEx:=fun t1 t2 B h1 h2=>h.exsEx t1 t2 B (hXB t1 B h1).2 (hXB t2 B h2).2,fix:=h.fix,fixT:=h.fixT },hle,fun o n v hn hv=>?_⟩
  ·rcases e with e|⟨rfl,_⟩
   ·exact h.new B' o e
   ·exact .inr r2
  ·rcases e with e|⟨rfl,_⟩
   ·exact h.lt B' o e
   ·exact r3
  ·obtain ⟨k1,k2,k3,k4⟩:=h.objs l ob hob;have hne:g.φ l≠B:=r7 l (by rw [show g.H l=some ob from hob]; rfl);exact ⟨k1,k2,fun o e=>e.elim (k3 o) fun q=>hne q.1,k4.mono hle (fun _=>rfl) (fun _=>rfl) (fun _ _ e=>e)⟩
  ·rcases h.owns t' n' k' ht' with hn|⟨B',off',cap',f1,f2,f3⟩
   ·exact .inl hn
   ·refine .inr ⟨B',off',cap',f1,f2,fun hlt=>?_⟩;obtain ⟨p1,p2,p3,p4⟩:=f3 hlt;refine ⟨p1,p2,p3,fun hk o e=>e.elim (p4 hk o) fun q=>?_⟩;have ht:t'=t:=r8 t' ⟨n',k',off',cap',ht',by rw [<- q.1]; exact f1,hlt⟩;subst ht;have hT:g.T t'=some (n',k'):=ht';rw [q1] at hT; cases hT;exact absurd rfl hk
  ·have hx2:upd s.X t none t'=some (k',b',xss'):=hx'
   by_cases e:t'=t
   ·rw [e,Kr] at hx2; cases hx2
   ·rw [Kc _ _ _ _ e] at hx2;refine (h.exs t' k' b' xss' hx2).mono hle rfl rfl (aJ _) fun B' off n cap' f1 f2 f3 f4 f5 f6=>⟨fun _=>rfl,fun _=>rfl,fun o ho=>ho.elim (f4 o) fun q=>?_,f5,fun t2 h2=>f6 t2 (h2.congr rfl rfl)⟩
    exact e (h.exsEx t' t B ⟨by rw [hx2]; rfl,off,n,cap',by rw [<- q.1]; exact f1⟩ ⟨by rw [hx]; rfl,0,_,cap,e1,hc⟩)
  ·have hels:Yn (fun B' o=>g.S B' o\/(B'=B/\o<xss.length * k)) g.w k xss B 0:=Bv q3 (v1.mono fun _ _ q=>⟨q.1.mono hle.S hle.cell hle.blk,q.2⟩) v2 (fun j hj=>.inr ⟨rfl,by rw [<- Jaj q3,v1.1,aW]; exact hj⟩);obtain ⟨l1,l2⟩:=lim o n hn;have hl:=htl o n hn;simp only [Jv];refine ⟨l1,l2,by simp, ?_⟩;rw [hl];rcases hv with ⟨f1,f2,f3,f4⟩|⟨B',cap',off,f1,_,f2,f3,f4,f5⟩
   ·subst f4; subst f3;have hnil:(xss.take (0+0)).drop 0=[]:=by simp
    exact .inr ⟨B,0,cap,by rw [f1,e1,f2],dO _,by simp,by rw [hnil]; simp only [Yn]⟩
   ·rw [e1] at f1; cases f1;refine .inr ⟨B,off,cap - o,f4,by omega,by simp, ?_⟩;rcases f5 with rfl|f5
    ·have:=hels.slice o (o+n)
     rwa [aW] at this
    ·have hnil:(xss.take (o+n)).drop o=[]:=aO (by rw [hl]; omega);rw [hnil]; simp only [Yn]
theorem Kh.exBorn(h:Kh Gl S0 w0 s a g){t k b:Nat}{p:PV}{v:Value}(hv:Rel g p v)(hp:p=.nil\/∃ k' b',p=.lst .full k' b' [])(hT:s.T t=none)(ht:t<1000000000)(hk:k≠0) :
  ∃ g',Kh Gl S0 w0 { s with T:=upd s.T t (some (0,0)),X:=upd s.X t (some (k,b,[])) } a g'/\GLe g g'/\g'.w=g.w/\g'.S=g.S/\Rel g' (.ex t k b 0 0 0) v:=by
 have hN:Tg v:=by
  rcases hp with rfl|⟨k',b',rfl⟩
  ·have:v=.slice none 0 0:=by simpa [Rel,Ks,Kk,Jv] using hv
   exact .inl this
  ·have hD:Jv g.S g.w (.lst .full k' b' []) v:=hv;simp only [Jv,aF] at hD;obtain ⟨_,_,_,⟨hn,_⟩|⟨B,off,cap,rfl,_,h0,_⟩⟩:=hD
   ·exact hn
   ·rw [h0 trivial]; exact .inr ⟨⟨B,off,none⟩,rfl⟩
 have hgT:g.T t=none:=by rw [h.hT]; exact hT
 obtain ⟨h1,h2⟩:=h.exHead (t:=t) (k:=k) (b:=b) (xss:=[]) (v:=v) (fun n0 k0 e=>by rw [hgT] at e; cases e) (fun _=>ht) (fun q=>absurd hgT q) hk sG sG sG (.inl ⟨hN,rfl⟩);refine ⟨_,h1,h2,rfl,rfl, ?_⟩;simp only [Rel,Ks,Kk];refine ⟨?_,0,Kr _ _ _,aJ _,fun _=>.inl ⟨by simp,rfl,rfl,rfl⟩⟩;rcases hN with rfl|⟨_,rfl⟩
 ·exact ⟨_,_,rfl,aJ _,fun q=>by omega⟩
 ·exact ⟨_,_,rfl,aJ _,fun q=>by omega⟩
theorem Jf1(i t k b:Nat)(hs:s.get i=.nil)(hT:((s.T t).isNone&&decide (t<1000000000)&&(k != 0))=true):Wkr s (({ s with T:=upd s.T t (some (0,0)),X:=upd s.X t (some (k,b,[])) }:PSt).put (some i) (.ex t k b 0 0 0)):=fun Gl S0 w0 a w hi=>by
 obtain ⟨g,rfl,h⟩:=hi;simp only [aI,decide_eq_true_eq] at hT;have hv:=h.get i;obtain ⟨g',h1,h2,h3,_,h4⟩:=h.exBorn (t:=t) (k:=k) (b:=b) hv (.inl hs) (by simpa using hT.1.1) hT.1.2 (by simpa using hT.2);exact ⟨g',h3,h1.reput i h4⟩
def Kg5(s:PSt)(l off t k b:Nat)(cs:List PV):PSt:={ s with T:=upd s.T t (some (0,0)),X:=upd s.X t (some (k,b,[])),H:=upd s.H l (some (.cells (cs.set off (.ex t k b 0 0 0)))) }
theorem Kh.recells(h:Kh Gl S0 w0 s a g){l off:Nat}{cs:List PV}{p:PV}(hl:s.H l=some (.cells cs))(hp:∀ q v,cs[off]? = some q->Yr g q v->Yr g p v) :
  ∃ g',Kh Gl S0 w0 { s with H:=upd s.H l (some (.cells (cs.set off p))) } a g'/\GLe g g'/\g'.w=g.w/\g'.S=g.S/\g'.hd=g.hd/\g'.T=g.T:=by
 have hgl:g.H l=some (.cells cs):=by rw [h.hH]; exact hl
 obtain ⟨o1,o2,o3,vs,v1,v2,v3⟩:=h.objs l (.cells cs) hgl;obtain ⟨h2,e2⟩:=h.setObj (l:=l) (ob':=.cells (cs.set off p)) (w':=g.w) hgl ⟨rfl,rfl,rfl,rfl,fun _ _=>rfl,rfl⟩ (fun cs' e=>by cases e; exact ⟨_,rfl,by simp⟩)
  (fun g' hg' hw'=>by
   refine ⟨vs,⟨by rw [cG]; exact v1.1,fun i q v hq hv=>?_⟩,by rw [hw']; exact v2,by rw [hw']; exact v3⟩;rw [cO] at hq
   by_cases hi:off=i
   ·subst hi;rw [if_pos rfl] at hq;split at hq
    ·rename_i hlt;cases hq;have hr:=v1.2 off _ v (aB hlt) hv;exact (hp _ v (aB hlt) hr).mono hg'
    ·cases hq
   ·rw [if_neg hi] at hq;exact (v1.2 i q v hq hv).mono hg')
 exact ⟨_,h2,e2,rfl,rfl,rfl,rfl⟩
def shTm(v:PV):List Nat->PSt->PSt
 | [],s=>s
 | i::r,s=>shTm v r { s with tm:=s.tm.set i v }
def shH(v:PV):List (Nat×Nat)->PSt->PSt
 | [],s=>s
 | x::r,s=>shH v r (match s.H x.1 with|some (.cells cs)=>{ s with H:=upd s.H x.1 (some (.cells (cs.set x.2 v))) }|_=>s)
def Oy(s:PSt)(x:Nat×Nat):Option PV:=match s.H x.1 with|some (.cells cs)=>cs[x.2]? | _=>none
theorem Kh.shTm{v:PV}:∀ (ws:List Nat) {s:PSt} {g:GG},Kh Gl S0 w0 s a g->(∀ i∈ws,Rel g v (Kgq a S0 i))->Kh Gl S0 w0 (shTm v ws s) a g
 | [],_,_,h,_=>h
 | i::r,_,_,h,hr=>Kh.shTm r (h.rput i (hr i sG)) fun j hj=>hr j (by simp [hj])
theorem Kh.shH{v:PV}(p0:PV)(hp0:p0≠v):∀ (hs:List (Nat×Nat)) {s:PSt} {g:GG},Kh Gl S0 w0 s a g->(∀ g' u,GLe g g'->g'.w=g.w->g'.T=g.T->g'.hd=g.hd->Yr g' p0 u->Yr g' v u)->(∀ x∈hs,Oy s x=some p0\/Oy s x=some v)->∃ g',Kh Gl S0 w0 (shH v hs s) a g'/\g'.w=g.w
 | [],_,g,h,_,_=>⟨g,h,rfl⟩
 | x::r,s,g,h,hr,hc=>by
  obtain ⟨l,off⟩:=x;simp only [PM.shH];cases hl:s.H l with
  | none=>exact Kh.shH p0 hp0 r h hr fun y hy=>hc y (by simp [hy])
  | some ob=>
   cases ob with
   | map es=>exact Kh.shH p0 hp0 r h hr fun y hy=>hc y (by simp [hy])
   | iter b pos=>exact Kh.shH p0 hp0 r h hr fun y hy=>hc y (by simp [hy])
   | miter ks vs left cur=>exact Kh.shH p0 hp0 r h hr fun y hy=>hc y (by simp [hy])
   | mapo es k b tk=>exact Kh.shH p0 hp0 r h hr fun y hy=>hc y (by simp [hy])
   | cells cs=>
    obtain ⟨g1,k1,k2,k3,_,k5,k6⟩:=h.recells (l:=l) (off:=off) (cs:=cs) (p:=v) hl (fun q u hq hrel=>by
     rcases hc (l,off) sG with e|e <;> (simp only [Oy,hl] at e; rw [hq] at e; cases e)
     ·exact hr g u (GLe.refl g) rfl rfl rfl hrel
     ·exact hrel)
    obtain ⟨g2,m1,m2⟩:=Kh.shH p0 hp0 r k1 (fun g' u q1 q2 q3 q4 q5=>hr g' u (k2.trans q1) (q2.trans k3) (q3.trans k6) (q4.trans k5) q5) (fun y hy=>by
     have hy':=hc y (by simp [hy]);obtain ⟨l',off'⟩:=y
     by_cases e:l'=l
     ·subst e;simp only [Oy,hl,Kr] at hy' ⊢;rw [cO]
      by_cases e2:off=off'
      ·subst e2;rw [if_pos rfl];have hlt:off<cs.length:=by
        rcases hy' with e|e <;> exact (aG.1 e).1
       rw [if_pos hlt]; exact .inr rfl
      ·rw [if_neg e2]; exact hy'
     ·simp only [Oy,Kc _ _ _ _ e] at hy' ⊢;exact hy')
    exact ⟨g2,m1,m2.trans k3⟩
theorem Dc(t k b N:Nat)(ws:List Nat)(hs:List (Nat×Nat)){xss:List (List PV)}(hx:s.X t=some (k,b,xss))(hT:s.T t=some (N,0))(h1:(ws.map fun i=>s.tm.getD i .any)=ws.map fun _=>.ex t k b N 0 N)(h2:hs.map (Oy s)=hs.map fun _=>some (.ex t k b N 0 N)) :
  Wkr s (shH (.lst .frozen k b xss) hs (shTm (.lst .frozen k b xss) ws { s with X:=upd s.X t none })):=fun Gl S0 w0 a w hi=>by
 obtain ⟨g,rfl,h⟩:=hi;obtain ⟨S',j1,j2,j3⟩:=h.exShare hx;have hN:N=xss.length:=by
  have:=(h.exs t k b xss hx).1;rw [h.hT,hT] at this; cases this; rfl
 subst hN;have key:∀ v,Jba (g.hd t) xss.length k 0 xss.length v->Jv S' g.w (.lst .frozen k b xss) v:=fun v hv=>by
  have:=j3 0 xss.length v oG hv
  simpa using this
 have hrel:∀ v,Rel g (.ex t k b xss.length 0 xss.length) v->Jba (g.hd t) xss.length k 0 xss.length v:=fun v hv=>by
  simp only [Rel,Ks,Kk] at hv;obtain ⟨_,N',e1,e2,e3⟩:=hv;rw [h.hT,hT] at e1; cases e1;exact e3 rfl
 have k1:=Kh.shTm (v:=.lst .frozen k b xss) ws j1 (fun i hi=>by
  have hg:=h.rget i;have:s.tm.getD i .any=.ex t k b xss.length 0 xss.length:=by
   have hm:=List.map_inj_left.1 h1 i hi;exact hm
  rw [this] at hg;exact Rel.of1 (Kk.of_data (key _ (hrel _ hg)) rfl))
 have htmH:∀ (ws:List Nat) (s:PSt),(PM.shTm (.lst .frozen k b xss) ws s).H=s.H:=fun ws=>by
  induction ws with
  | nil=>intro s; rfl
  | cons i r ih=>intro s; exact ih _
 have hT2:({ g with S:=S' }:GG).T t=some (xss.length,0):=by rw [<- hT,<- h.hT]
 obtain ⟨g2,k2,k3⟩:=Kh.shH (v:=.lst .frozen k b xss) (.ex t k b xss.length 0 xss.length) sG hs k1 (fun g' u q1 q2 qT qh q3=>by
  have q3':=q3.1;simp only [Kk] at q3';obtain ⟨_,N',f1,f2,f3⟩:=q3';rw [qT,hT2] at f1; cases f1;refine ⟨?_,q3.2⟩;have hv:=f3 rfl;rw [qh] at hv;exact Kk.of_data ((key u hv).mono q1.S (fun B o ho=>by rw [q2]) (fun B _=>by rw [q2])) rfl) (fun x hx=>by
  left
  simp only [Oy,htmH];exact List.map_inj_left.1 h2 x hx)
 exact ⟨g2,k3,k2⟩
end
end PM
namespace PM
open Go Go.RowKit
section
variable {P:Program} {Gl:GL} {s:PSt} {d:Bool} {Ls r:List (Oper×Gd)} {Q:PSt->Prop} {α:Type} [Enc α]
theorem Jay{o:Oper}{n:PSt}{v:PV}(hm:Je3 o.op=false)(h:Kam P Gl o s n v)(h2:Jy P Gl false r ((Jap s n).put o.dst v) Q):Jy P Gl false ((o,.always)::r) s Q:=by
 simp only [Jy,Be]; exact .inr ⟨rfl,hm,fun _=>True,fun _=>n,v,fun S0 w0 a g K Q hg hK=>h S0 w0 a g K Q hg fun z g' e1 e2 e3=>hK 0 z g' trivial e1 e2 e3,fun _ _=>h2⟩
def Juf(P:Program):List (Oper×Gd)->PSt->Option (PV×Nat×Nat×List (List PV))
 | (o,.always)::_,s=>match o.op with
  | .call c=>match c.callee,c.args.toList,c.argTypes.toList with
   | .builtin .append,[x,y],[t,t']=>match Jhx P t,Rq P t' with
    | some (_,k,b),true=>match Kfb k (s.ev y) with
     | some yss=>some (s.ev x,k,b,yss)
     | none=>none
    | _,_=>none
   | _,_,_=>none
  | _=>none
 | _,_=>none
theorem Jwa{ys M:List α}{L:List α}{x:PV}(hM:Qi L ys=some M)(h:Juf P Ls s=some (x,Enc.k α,Enc.b α,ys.map cellsOf)){n:PSt}{v:PV}(hx:∀ (S0:Bs) (w0:World) (a:Act) (g:GG) (xv:Value),Kh Gl S0 w0 s a g->Rel g x xv->∃ s1 g1 tk,Kh Gl S0 w0 s1 a g1/\GLe g g1/\g1.w=g.w/\s1.X tk=some (Enc.k α,Enc.b α,L.map cellsOf)/\Rel g1 (.ex tk (Enc.k α) (Enc.b α) (L.map cellsOf).length 0 (L.map cellsOf).length) xv /\
   Jap s n={ s1 with T:=upd s1.T tk (some ((M.map cellsOf).length,0)),X:=upd s1.X tk (some (Enc.k α,Enc.b α,M.map cellsOf)) }/\v=.ex tk (Enc.k α) (Enc.b α) (M.map cellsOf).length 0 (M.map cellsOf).length)(h2:Jy P Gl false (Ls.drop 1) ((Jap s n).put (Uk Ls) v) Q):Jy P Gl false Ls s Q:=by
 unfold Qi at hM;split at hM
 ·rename_i hz;cases hM;unfold Juf at h;split at h
  ·rename_i s0 o rest;split at h
   ·rename_i c hop;split at h
    ·rename_i x' y t t' h1 hargs htys;split at h
     ·rename_i e k b hk ht';split at h
      ·rename_i yss hys;simp only [aP,aM] at h;obtain ⟨rfl,rfl,rfl,rfl⟩:=h;refine Jay (n:=n) (v:=v) (by rw [hop]; rfl) ?_ h2;intro S0 w0 a g K Q' hg hK;have hyr:=hg.ev y;have hy:∃ b',Jv g.S g.w (.lst .frozen (Enc.k α) b' (ys.map cellsOf)) (a.eval y):=by
        unfold Kfb at hys;split at hys
        ·rename_i hyn;simp only [aP] at hys;rw [hyn] at hyr;rw [<- hys];exact ⟨0,Jv.ofNil _ 0 (.inl rfl) hyr⟩
        ·rename_i oy k' b' yss' hyl;split at hys
         ·rename_i hkk;simp only [aP] at hys;rw [hyl] at hyr;rw [<- hkk,<- hys];exact ⟨b',Jk5 hyr⟩
         ·cases hys
        ·cases hys
       obtain ⟨b',hy⟩:=hy;obtain ⟨s1,g1,tk,i1,i2,i3,i4,i5,i6,i7⟩:=hx S0 w0 a g _ hg (hg.ev x');have hy1:Jv g1.S g1.w (.lst .frozen (Enc.k α) b' (ys.map cellsOf)) (a.eval y):=hy.mono i2.S i2.cell i2.blk;obtain ⟨v',g',q1,q2,q3,q4⟩:=Juh (P:=P) (ty:=o.type) i1 hk ht' i4 i5 hy1 (by simpa using hz.1) (by simpa using hz.2);rw [i3] at q1;have hrun:(execOp a.eval o).run P g.w=.ok (.value v') g'.w:=by
        simp [execOp,hop,resolve,h1,Te hargs,Te htys,invoke,builtin,q1]
       unfold Oper.wp;rw [hrun];refine hK v' g' ?_ (i2.trans q3) ?_
       ·rw [i6]; simpa [cL] using q2
       ·rw [i7]; simpa [cL] using q4
      ·cases h
     ·cases h
    ·cases h
   ·cases h
  ·cases h
 ·cases hM
theorem Juu{L ys M:List α}{tk N:Nat}(hM:Qi L ys=some M)(hX:s.X tk=some (Enc.k α,Enc.b α,L.map cellsOf))(hT:s.T tk=some (N,0))(h:Juf P Ls s=some (.ex tk (Enc.k α) (Enc.b α) N 0 N,Enc.k α,Enc.b α,ys.map cellsOf))(h2:Jy P Gl false (Ls.drop 1) (({ s with T:=upd s.T tk (some ((M.map cellsOf).length,0)),X:=upd s.X tk (some (Enc.k α,Enc.b α,M.map cellsOf)) }:PSt).put (Uk Ls) (.ex tk (Enc.k α) (Enc.b α) (M.map cellsOf).length 0 (M.map cellsOf).length)) Q):Jy P Gl false Ls s Q:=by
 refine Jwa (n:={ s with T:=upd s.T tk (some ((M.map cellsOf).length,0)),X:=upd s.X tk (some (Enc.k α,Enc.b α,M.map cellsOf)) }) hM h (fun S0 w0 a g xv hg hv=>?_) h2;have hN:N=(L.map cellsOf).length:=by
  have:=(hg.exs _ _ _ _ hX).1;rw [hg.hT,hT] at this; cases this; rfl
 subst hN;exact ⟨s,g,tk,hg,GLe.refl g,rfl,hX,hv,rfl,rfl⟩
theorem Jnx{ys M:List α}{tk:Nat}{x:PV}(hM:Qi ([]:List α) ys=some M)(hx:x=.nil\/∃ k' b',x=.lst .full k' b' [])(hT:((s.T tk).isNone&&decide (tk<1000000000)&&(Enc.k α != 0))=true)(h:Juf P Ls s=some (x,Enc.k α,Enc.b α,ys.map cellsOf))(h2:Jy P Gl false (Ls.drop 1) (({ s with T:=upd s.T tk (some ((M.map cellsOf).length,0)),X:=upd s.X tk (some (Enc.k α,Enc.b α,M.map cellsOf)) }:PSt).put (Uk Ls) (.ex tk (Enc.k α) (Enc.b α) (M.map cellsOf).length 0 (M.map cellsOf).length)) Q):Jy P Gl false Ls s Q:=by
 refine Jwa (n:={ s with T:=upd s.T tk (some ((M.map cellsOf).length,0)),X:=upd s.X tk (some (Enc.k α,Enc.b α,M.map cellsOf)) }) hM h (fun S0 w0 a g xv hg hv=>?_) h2;simp only [aI,decide_eq_true_eq] at hT;obtain ⟨g1,k1,k2,k3,_,k4⟩:=hg.exBorn (t:=tk) (k:=Enc.k α) (b:=Enc.b α) hv hx (by simpa using hT.1.1) hT.1.2 (by simpa using hT.2);exact ⟨_,g1,tk,k1,k2,k3,Kr _ _ _,k4,by simp [Jap,Kbg],rfl⟩
def Wd(o n:Nat)(i:Int):Option Nat:=if 0<=i/\i<(n:Int) then some (o+i.toNat) else none
def Jy4(tk k N o n:Nat)(i:Int):Option (PV×Eff):=(if k=k/\0<=i/\i<(n:Int) then some (PV.eref tk k N (o+i.toNat) 0) else none).map fun v=>(v,Eff.none)
theorem Jsb{tk k N o n j:Nat}{i:Int}(hj:Wd o n i=some j)(h:Nb P Gl Ls s=Jy4 tk k N o n i)(h2:Jy P Gl d (Ls.drop 1) (s.put (Uk Ls) (.eref tk k N j 0)) Q):Jy P Gl d Ls s Q:=by
 unfold Wd at hj;split at hj
 ·rename_i hc;cases hj;exact Cu (v:=.eref tk k N (o+i.toNat) 0) (e:=.none) (by rw [h,Jy4,if_pos ⟨rfl,hc⟩]; rfl) h2
 ·cases hj
def Vd(L:List α)(N j:Nat):Option α:=if L.length=N then L[j]? else none
def Jxf(row:Bool)(n off:Nat)(cs:List PV):Option PV:=match row with|true=>if n<=(cs.drop off).length then some (PV.agg (Jki n (cs.drop off))) else none|false=>(cs.drop off).head?
def Jy1(row:Bool)(n off k N j:Nat)(xss:List (List PV)):Option (PV×Eff):=(if k=k/\xss.length=N then (xss[j]?).bind fun cs=>match row with|true=>if n<=(cs.drop off).length then some (PV.agg (Jki n (cs.drop off))) else none|false=>(cs.drop off).head? else none).map fun v=>(v,Eff.none)
omit [Enc α] in
theorem Js2{L:List α}{N j:Nat}{y:α}(hy:Vd L N j=some y):L.length=N/\L[j]? = some y:=by
 unfold Vd at hy;split at hy
 ·rename_i hN; exact ⟨hN,hy⟩
 ·cases hy
theorem Jdv{L:List α}{N j:Nat}{y:α}{v:PV}(hy:Vd L N j=some y)(row:Bool)(n off:Nat)(h:Nb P Gl Ls s=Jy1 row n off (Enc.k α) N j (L.map cellsOf))(hv:Jxf row n off (cellsOf y)=some v)(h2:Jy P Gl d (Ls.drop 1) (s.put (Uk Ls) v) Q):Jy P Gl d Ls s Q:=by
 obtain ⟨hN,hj⟩:=Js2 hy;refine Cu (v:=v) (e:=.none) ?_ h2;rw [h,Jy1,if_pos ⟨rfl,by simpa using hN⟩,aN,hj];simp only [bH,aA];unfold Jxf at hv;rw [hv]; rfl
def Jy2(tk k b N j off n:Nat)(ds:List PV)(xss:List (List PV)):Option (PV×Eff):=if true=true/\k=k/\xss.length=N/\n=n then (xss[j]?).bind fun cs=>if off+n<=cs.length then some (PV.any,Eff.xs tk (k,b,xss.set j (splice cs off ds))) else none else none
theorem Klf{L:List α}{tk N j:Nat}{y y':α}(hy:Vd L N j=some y)(off n:Nat)(ds:List PV)(h:Nb P Gl Ls s=Jy2 tk (Enc.k α) (Enc.b α) N j off n ds (L.map cellsOf))(hv:(decide (off+n<=(cellsOf y).length),splice (cellsOf y) off ds)=(true,cellsOf y'))(h2:Jy P Gl d (Ls.drop 1) (({ s with X:=upd s.X tk (some (Enc.k α,Enc.b α,(L.set j y').map cellsOf)) }:PSt).put (Uk Ls) .any) Q):Jy P Gl d Ls s Q:=by
 obtain ⟨hN,hj⟩:=Js2 hy;obtain ⟨hv1,hv2⟩:=bR hv;refine Cu (v:=.any) (e:=.xs tk (Enc.k α,Enc.b α,(L.set j y').map cellsOf)) ?_ h2;rw [h,Jy2,if_pos ⟨rfl,rfl,by simpa using hN,rfl⟩,aN,hj];simp only [bH,aA];rw [if_pos (of_decide_eq_true hv1),hv2,List.map_set]
def Jzw(n:Nat)(lo hi:Option Int):Option (Nat×Nat) :=
 match Jjs lo 0,Jjs hi n with
 | some l,some h=>if l<=h/\h<=n then some (l,h) else none
 | _,_=>none
theorem Kjm{tk k b N o n:Nat}{lo hi:Option Int}{p:Nat×Nat}(hM:Jzw n lo hi=some p)(h:Jzv P Ls s=some (k,.ex tk k b N o n,pvI lo,pvI hi,none))(h2:Jy P Gl d (Ls.drop 1) (s.put (Uk Ls) (.ex tk k b N (o+p.1) (p.2 - p.1))) Q):Jy P Gl d Ls s Q:=by
 unfold Jzw at hM;split at hM
 ·rename_i l u e1 e2;split at hM
  ·rename_i hc;cases hM;unfold Jzv at h;split at h
   ·rename_i oo rest s;split at h
    ·rename_i t x lo' hi' mx' hop;split at h
     ·rename_i e ro k0 b0 hel;simp only [aP,aM] at h;obtain ⟨rfl,hx,hlo,hhi,hmx⟩:=h;refine Cu (v:=.ex tk k0 b N (o+l) (u - l)) (e:=.none) ?_ h2;simp only [Nb,hop,Vx,evO,Cg,aQ,if_false,ev1,hx,hlo,hhi,hmx,Ja9,hel,Kak,e1,e2];rw [if_pos ⟨trivial,hc.1,hc.2,trivial⟩]; rfl
     ·cases h
    ·cases h
   ·cases h
  ·cases hM
 ·cases hM
def Jwm(n:Nat)(hi:Int):Option Nat:=if 0<=hi/\hi<=(n:Int) then some hi.toNat else none
theorem Kko{tk k b N o n m:Nat}{hi:Int}(hM:Jwm n hi=some m)(h:Jzv P Ls s=some (k,.ex tk k b N o n,none,some (.int .i64 hi),none))(h2:Jy P Gl d (Ls.drop 1) (s.put (Uk Ls) (.ex tk k b N o m)) Q):Jy P Gl d Ls s Q:=by
 unfold Jwm at hM;split at hM
 ·rename_i hc;cases hM;have hM2:Jzw n none (some hi)=some (0,hi.toNat):=by
   simp only [Jzw,Jjs,if_pos hc.1];rw [if_pos ⟨dO _,by omega⟩]
  exact Kjm (lo:=none) (hi:=some hi) hM2 h h2
 ·cases hM
def Kjj(P:Program):List (Oper×Gd)->PSt->Option (PV×List PV)
 | (o,.always)::_,s=>match o.op with
  | .call c=>match c.callee,c.args.toList,c.argTypes.toList with
   | .builtin .clear,[x],[t]=>match Jhx P t with
    | some (e,_,_)=>(Jfg P e).bind fun z=>if Rd z=true then (Iv z.cells).map fun ds=>(s.ev x,ds) else none
    | none=>none
   | _,_,_=>none
  | _=>none
 | _,_=>none
def Jvx(L:List α)(N o n:Nat)(z:α):Option (List α):=if L.length=N/\o+n<=N then some (L.take o++List.replicate n z++L.drop (o+n)) else none
def Ki2(P:Program):List (Oper×Gd)->PSt->Option (Nat×Nat×List PV×PV×PV)
 | (o,.always)::_,s=>match o.op with
  | .makeSlice t n c=>match Jhx P t with
   | some (e,k,b)=>(Jfg P e).bind fun z=>if Rd z=true then (Iv z.cells).map fun ds=>(k,b,ds,s.ev n,s.ev c) else none
   | _=>none
  | _=>none
 | _,_=>none
def Jy3(n c:Int)(b:Nat)(z:α):Option (List α):=if 0<=n/\n<=c/\c.toNat * b<=Js/\c.toNat<=Js then some (List.replicate n.toNat z) else none
theorem Jge(z:Array Value):∀ n:Nat,(madeCells z (n * z.size)).toList=(List.replicate n z.toList).flatten:=by
 intro n;apply dB;intro i;have hlen:(List.replicate n z.toList).flatten.length=n * z.size:=by simp [List.length_flatten]
 by_cases hi:i<n * z.size
 ·have h1:(madeCells z (n * z.size)).toList[i]? = some (z[i % z.size]!):=by
   simp [madeCells,hi]
  rw [h1];have:∀ (n i:Nat),i<n * z.size->(List.replicate n z.toList).flatten[i]? = some (z[i % z.size]!):=by
   intro n;induction n with
   | zero=>intro i hi; simp at hi
   | succ n ih=>
    intro i hi;rw [List.replicate_succ,bX,aU]
    by_cases h:i<z.size
    ·rw [if_pos (by simpa using h),Nat.mod_eq_of_lt h];simp [h]
    ·rw [if_neg (by simpa using h)];have h2:=ih (i - z.size) (by rw [bU] at hi; omega);simp only [bJ];rw [h2];congr 2
     conv=>rhs; rw [show i=(i - z.size)+z.size by omega]
     simp
  exact (this n i hi).symm
 ·rw [bY (by simp [madeCells]; omega),bY oG]
theorem Jn9(z:Array Value)(n:Nat):Builtin.zeroCells z n=madeCells z (n * z.size):=by
 simp [Builtin.zeroCells,madeCells]
theorem Jb1{R:PV->Value->Prop}{cs:List PV}{vs:List Value}(h:Kg R cs vs):∀ n:Nat,Kg R (List.replicate n cs).flatten (List.replicate n vs).flatten
 | 0=>by simpa using Kg.nil
 | n+1=>by
  rw [List.replicate_succ,List.replicate_succ,bX,bX];exact h.append (Jb1 h n)
theorem Kgr{p q:PV}(h:q.one=true):(Ju7 p q).one=true:=by
 unfold Ju7;split
 ·split
  ·rfl
  ·rfl
  ·exact h
 ·split
  ·rfl
  ·exact h
 ·exact h
theorem Js8{S:Qa}{w:World}:∀ {ps qs:List PV} {vs:List Value},Kg (fun p v=>Jv S w p v/\p.one=true) qs vs->Kg (fun p v=>Jv S w p v/\p.one=true) (Kgf ps qs) vs
 | p::ps,q::qs,vs,h=>by
  obtain ⟨v,vs',rfl,h1,h2⟩:=h.cons_left;exact .cons ⟨Jog h1.1,Kgr h1.2⟩ (Js8 h2)
 | [],_,_,h=>h
 | _::_,[],_,h=>h
theorem Kgw{n c:Int}{z:α}{M:List α}(tk:Nat)(hM:Jy3 n c (Enc.b α) z=some M)(h:(Ki2 P Ls s).map (fun x=>(x.1,x.2.1,Kgf (cellsOf z) x.2.2.1,x.2.2.2))=some (Enc.k α,Enc.b α,cellsOf z,.int .i64 n,.int .i64 c))(hT:((s.T tk).isNone&&decide (tk<1000000000)&&decide ((cellsOf z).length=Enc.k α))=true)(h2:Jy P Gl false (Ls.drop 1) (({ s with T:=upd s.T tk (some ((M.map cellsOf).length,0)),X:=upd s.X tk (some (Enc.k α,Enc.b α,M.map cellsOf)) }:PSt).put (Uk Ls) (.ex tk (Enc.k α) (Enc.b α) (M.map cellsOf).length 0 (M.map cellsOf).length)) Q):Jy P Gl false Ls s Q:=by
 unfold Jy3 at hM;split at hM
 ·rename_i hc;obtain ⟨c1,c2,c3,c4⟩:=hc;cases hM;unfold Js at c3 c4;simp only [aI,decide_eq_true_eq] at hT;obtain ⟨⟨hT1,hT2⟩,hT3⟩:=hT;have hT1':s.T tk=none:=by simpa using hT1
  have h':=aD.1 h;clear h;obtain ⟨xh,h,hy⟩:=h';unfold Ki2 at h;split at h
  ·rename_i s0 o rest;split at h
   ·rename_i t nn cc hop;split at h
    ·rename_i e k b hk;obtain ⟨zp,hz,h⟩:=bF.1 h;split at h
     ·rename_i hbox;obtain ⟨ds,hds,h⟩:=aD.1 h;subst h;simp only [aM] at hy;obtain ⟨rfl,rfl,hdz,hn,hcc⟩:=hy;refine Jay (n:={ s with T:=upd s.T tk (some (((List.replicate n.toNat z).map cellsOf).length,0)),X:=upd s.X tk (some (Enc.k α,Enc.b α,(List.replicate n.toNat z).map cellsOf)) }) (v:=.ex tk (Enc.k α) (Enc.b α) ((List.replicate n.toNat z).map cellsOf).length 0 ((List.replicate n.toNat z).map cellsOf).length) (by rw [hop]; rfl) ?_ h2;intro S0 w0 a g K Q' hg hK;obtain ⟨i,zv,i1,i2,i3⟩:=Jf3 (g:=g) hz hbox;obtain ⟨i',z',k1,k2,k3,k4,k5,k6,k7⟩:=Tf hk;rw [i1] at k2; cases k2;rw [i2] at k5; cases k5;have hnv:=hg.ev nn;rw [hn,Uz] at hnv;have hcv:=hg.ev cc;rw [hcc,Uz] at hcv;have hm:((c.toNat:Nat):Int)=c:=by omega
      have hb':(i.bytes:Int) * c<=281474976710656:=by
       rw [k4,<- hm,<- Int.natCast_mul];have:=Nat.mul_comm c.toNat (Enc.b α);omega
      have hrun:=run_make (P:=P) g.w t e i zv k1 i1 i2 .i64 .i64 n c c1 c2 hb' oG;have hcells:(madeCells zv.cells (c.toNat * i.size)).toList=(List.replicate c.toNat zv.cells.toList).flatten:=by rw [k3,<- k6]; exact Jge _ _
      have hdat:Kg (fun p v=>Jv g.S g.w p v/\p.one=true) (cellsOf z) zv.cells.toList:=by
       rw [<- hdz];exact Js8 ((Ip i3 hds).mono fun _ _ q=>⟨q.1,q.2.1⟩)
      obtain ⟨h1,g1⟩:=hg.grow' (Oz g.w (.cells (madeCells zv.cells (c.toNat * i.size)) e));have hzl:zv.cells.toList.length=Enc.k α:=by simpa using k6
      have hk':∀ cs∈(List.replicate n.toNat z).map cellsOf,cs.length=Enc.k α:=fun cs hcs=>by
       obtain ⟨x,hx,rfl⟩:=bN.1 hcs;rw [(List.mem_replicate.1 hx).2]; exact hT3
      have hlen:((List.replicate n.toNat z).map cellsOf).length=n.toNat:=by simp
      have hvals:Kg (fun p v=>Jv g.S (g.w.alloc (.cells (madeCells zv.cells (c.toNat * i.size)) e)) p v/\p.one=true) ((List.replicate n.toNat z).map cellsOf).flatten (List.replicate n.toNat zv.cells.toList).flatten:=by
       rw [List.map_replicate];exact Jb1 (hdat.monoD g1.S g1.cell g1.blk) _
      have hrange:(g.w.alloc (.cells (madeCells zv.cells (c.toNat * i.size)) e)).rangeAt g.w.heap.size 0 (List.replicate n.toNat zv.cells.toList).flatten:=fun j v hj=>by
       refine Mw g.w _ e j v ?_;rw [hcells];have hsplit:List.replicate c.toNat zv.cells.toList=List.replicate n.toNat zv.cells.toList++List.replicate (c.toNat - n.toNat) zv.cells.toList:=by
        rw [List.replicate_append_replicate]; congr 1; omega
       rw [hsplit,dK];rw [bM (aG.1 hj).1];exact hj
      have hthere:(g.w.alloc (.cells (madeCells zv.cells (c.toNat * i.size)) e)).there g.w.heap.size 0 (c.toNat * Enc.k α):=fun j hj=>Xq g.w _ e j (by rw [size_madeCells,k3]; exact hj);have hgT:g.T tk=none:=by rw [hg.hT]; exact hT1'
      have hbytes:n.toNat * Enc.b α<=140737488351232:=bG (bV _ oG) c3;obtain ⟨h3,g3⟩:=h1.exHead (t:=tk) (k:=Enc.k α) (b:=Enc.b α) (xss:=(List.replicate n.toNat z).map cellsOf) (v:=.slice (some ⟨g.w.heap.size,0,none⟩) n.toNat c.toNat)
       (fun n0 k0 q=>by have:g.T tk=some (n0,k0):=q; rw [hgT] at this; cases this) (fun _=>hT2) (fun q=>absurd hgT q) k7 hk' (by rw [hlen]; exact hbytes) (by rw [hlen]; omega)
       (by
        by_cases hc0:c.toNat=0
        ·left
         have hn0:n.toNat=0:=by omega
         rw [hn0,hc0];exact ⟨.inr ⟨_,rfl⟩,rfl⟩
        ·right
         exact ⟨g.w.heap.size,c.toNat,by rw [hlen],by omega,⟨by rw [hlen]; omega,.inl hg.below.size,by simp,fun o ho=>(by have:=hg.lt _ _ ho; omega),⟨_,hvals,hrange⟩,hthere,fun l hl=>hg.phi_lt l hl,fun t2 h2=>(hg.spare_lt t2 (h2.congr rfl rfl)).elim⟩,fun t2 _ h2=>hg.xb_lt t2 (h2.congr rfl)⟩)
      have hrun2:(execOp a.eval o).run P g.w=.ok (.value (.slice (some ⟨g.w.heap.size,0,none⟩) n.toNat c.toNat)) (g.w.alloc (.cells (madeCells zv.cells (c.toNat * i.size)) e)):=by
       simp [execOp,hop,hnv,hcv,hrun]
      unfold Oper.wp;rw [hrun2];refine hK _ _ h3 (g1.trans g3) ?_;simp only [Rel,Ks,Kk];refine ⟨⟨_,_,by rw [hlen],by rw [hlen]; omega,fun _=>⟨_,_,rfl⟩⟩,_,Kr _ _ _,aJ _,fun _=>?_⟩
      by_cases hc0:c.toNat=0
      ·exact .inl ⟨by simp,by rw [hlen]; omega,rfl,by rw [hlen]; omega⟩
      ·exact .inr ⟨g.w.heap.size,c.toNat,0,by rw [hlen]; simp,by omega,by rw [hlen]; omega,by omega,by rw [hlen]; simp,by simp⟩
     ·cases h
    ·cases h
   ·cases h
  ·cases h
 ·cases hM
end
end PM
namespace PM
open Go Go.RowKit
section
variable {P:Program} {Gl:GL} {s:PSt} {d:Bool} {Ls r:List (Oper×Gd)} {Q:PSt->Prop} {α:Type} [Enc α]
theorem Jzi{w:World}{t e ty:TypeId}(ht:P.underlying t=some (.slice e))(base:Option Addr)(cap:Nat):(Builtin.clear_ #[t] ty #[.slice base 0 cap]).run P w=.ok (.tuple #[]) w:=by
 cases base <;> simp [Builtin.clear_,run_underlying ht]
theorem Jzx{w w':World}{t e ty:TypeId}{i:TypeInfo}{zv:Value}(ht:P.underlying t=some (.slice e))(hi:P.info? e=some i)(hz:i.zero=some zv)(ad:Addr)(n cap:Nat)(hn:n≠0)(hst:(storeCells ad (Builtin.zeroCells zv.cells n).toList).run P w=.ok () w'):(Builtin.clear_ #[t] ty #[.slice (some ad) n cap]).run P w=.ok (.tuple #[]) w':=by
 obtain ⟨m,rfl⟩:=eQ hn;simp [Builtin.clear_,run_underlying ht,zeroValue,typeInfo,hi,hz,hst]
theorem Kd8{k:Nat}:∀ (xss:List (List PV)) (o n:Nat) (c:List PV),(∀ c∈xss,c.length=k)->c.length=k->o+n<=xss.length->(xss.take o++List.replicate n c++xss.drop (o+n)).flatten=splice xss.flatten (o * k) (List.replicate n c).flatten:=by
 intro xss o n c hx hc hon;have h1:∀ (m:Nat) (ys:List (List PV)),(∀ c∈ys,c.length=k)->ys.flatten.take (m * k)=(ys.take m).flatten/\ys.flatten.drop (m * k)=(ys.drop m).flatten:=by
  intro m;induction m with
  | zero=>intro ys _; simp
  | succ m ih=>
   intro ys hy;cases ys with
   | nil=>simp
   | cons y ys=>
    have hyl:y.length=k:=hy y sG;obtain ⟨i1,i2⟩:=ih ys (fun c hc=>hy c (by simp [hc]));have e1:(m+1) * k - k=m * k:=by rw [bU]; omega
    have e2:List.take ((m+1) * k) y=y:=dV (by rw [hyl,bU]; omega);have e3:List.drop ((m+1) * k) y=[]:=cZ (by rw [hyl,bU]; omega);rw [bX,List.take_append,List.drop_append,e2,e3,hyl,e1,i1,i2];simp
 have hrl:(List.replicate n c).flatten.length=n * k:=by simp [List.length_flatten,hc]
 rw [dK,dK,splice,hrl,<- (h1 o xss hx).1,<- cT,<- (h1 (o+n) xss hx).2]
theorem Kkz{L M:List α}{tk N o n:Nat}{z:α}(hM:Jvx L N o n z=some M)(hX:s.X tk=some (Enc.k α,Enc.b α,L.map cellsOf))(hT:s.T tk=some (N,0))(h:Kjj P Ls s=some (.ex tk (Enc.k α) (Enc.b α) N o n,cellsOf z))(hz:(cellsOf z).length=Enc.k α)(h2:Jy P Gl false (Ls.drop 1) (({ s with X:=upd s.X tk (some (Enc.k α,Enc.b α,M.map cellsOf)) }:PSt).put (Uk Ls) .any) Q):Jy P Gl false Ls s Q:=by
 unfold Jvx at hM;split at hM
 ·rename_i hc;obtain ⟨hLN,hon⟩:=hc;cases hM;unfold Kjj at h;split at h
  ·rename_i s0 oo rest;split at h
   ·rename_i c hop;split at h
    ·rename_i x t hcal hargs htys;split at h
     ·rename_i e k b hk;obtain ⟨zp,hzp,h⟩:=bF.1 h;split at h
      ·rename_i hbox;obtain ⟨ds,hds,h⟩:=aD.1 h;simp only [aM] at h;obtain ⟨hx,rfl⟩:=h;refine Jay (n:={ s with X:=upd s.X tk (some (Enc.k α,Enc.b α,(L.take o++List.replicate n z++L.drop (o+n)).map cellsOf)) }) (v:=.any) (by rw [hop]; rfl) ?_ h2;intro S0 w0 a g K Q' hg hK;obtain ⟨i,zv,i1,i2,i3⟩:=Jf3 (g:=g) hzp hbox;obtain ⟨i',z',k1,k2,k3,k4,k5,k6,k7⟩:=Tf hk;rw [i1] at k2; cases k2;rw [i2] at k5; cases k5;have hxv:=hg.ev x;rw [hx] at hxv;simp only [Rel,Ks,Kk] at hxv;obtain ⟨⟨base,cap0,hxe,hcap0,_⟩,N',r1,r2,r3⟩:=hxv;rw [hg.hT,hT] at r1; cases r1;obtain ⟨q1,q2,q3,q4,q5,q6⟩:=hg.exs tk _ _ _ hX;have hmapM:((L.take o++List.replicate n z++L.drop (o+n)).map cellsOf)=(L.map cellsOf).take o++List.replicate n (cellsOf z)++(L.map cellsOf).drop (o+n):=by simp [eY,List.map_drop]
       by_cases hn0:n=0
       ·subst hn0;have hsame:(L.take o++List.replicate 0 z++L.drop (o+0))=L:=by simp
        have hX2:upd s.X tk (some (Enc.k α,Enc.b α,(L.take o++List.replicate 0 z++L.drop (o+0)).map cellsOf))=s.X:=by
         rw [hsame]; funext y
         by_cases e:y=tk
         ·subst e; rw [Kr,hX]
         ·rw [Kc _ _ _ _ e]
        have hrun:(execOp a.eval oo).run P g.w=.ok (.value (.tuple #[])) g.w:=by
         have h1:c.args=#[x]:=Tb hargs;have h2:c.argTypes=#[t]:=Tb htys;simp [execOp,hop,resolve,hcal,h1,h2,invoke,builtin,hxe,Jzi k1]
        unfold Oper.wp;rw [hrun];exact hK _ g (by rw [hX2]; exact hg) (GLe.refl g) (Rel.any _ _)
       ·rcases q6 with ⟨_,hnil⟩|⟨B,cap,e3,hc0,p1,p2,p3,p4,⟨vs,v1,v2⟩,p5,p6,p7⟩
        ·have:L.length=0:=by have:=congrArg List.length hnil; simpa using this
         omega
        ·rcases r3 rfl with ⟨_,_,_,f4⟩|⟨B1,cap1,off,e1,_,_,_,e2,e4⟩
         ·exact absurd f4 hn0
         ·rw [e3] at e1;simp only [Value.slice.injEq,aP,Addr.mk.injEq,and_true] at e1;obtain ⟨rfl,_,rfl⟩:=e1;have hlen:(L.map cellsOf).length=N:=by simpa using hLN
          have hoff:off=o * Enc.k α:=e4.resolve_right oG;subst hoff;have hkz:zv.cells.size=Enc.k α:=by
           have:=i3.1;have h2:=Mz hds;rw [hz] at h2;simp only [bJ] at this;omega
          have hfl:(L.map cellsOf).flatten.length=N * Enc.k α:=by rw [Jaj q3,hlen]
          have hvl:vs.length=N * Enc.k α:=by rw [<- v1.1,hfl]
          have hzc:(Builtin.zeroCells zv.cells n).toList=(List.replicate n zv.cells.toList).flatten:=by rw [Jn9]; exact Jge _ _
          have hzl:(Builtin.zeroCells zv.cells n).toList.length=n * Enc.k α:=by simp [size_zeroCells,hkz]
          have hmul:o * Enc.k α+n * Enc.k α<=N * Enc.k α:=by rw [<- cT]; exact bV _ hon
          have hmul2:N * Enc.k α<=cap * Enc.k α:=bV _ oG;have hth:∀ j,j<(Builtin.zeroCells zv.cells n).toList.length->(g.w.cell? ⟨B,o * Enc.k α+0+j,none⟩).isSome=true/\g.w.frozen? ⟨B,o * Enc.k α+0+j,none⟩=false:=fun j hj=>by
           have:=p5 (o * Enc.k α+j) oG
           rwa [aW] at this
          have hdat:Kg (fun p v=>Jv g.S g.w p v/\p.one=true) (cellsOf z) zv.cells.toList:=(Ip i3 hds).mono fun _ _ q=>⟨q.1,q.2.1⟩
          have hcell1:∀ v∈(Builtin.zeroCells zv.cells n).toList,v.oneCell'=true:=fun v hv=>by
           rw [hzc] at hv;obtain ⟨l,hl1,hl2⟩:=List.mem_flatten.1 hv;rw [(List.mem_replicate.1 hl1).2] at hl2;obtain ⟨j,hj⟩:=aS hl2;obtain ⟨p,hp,hr⟩:=hdat.left hj;exact (hr.1.oneCell hr.2).1
          have hst:=run_storeCells_cells (P:=P) B (o * Enc.k α) (Builtin.zeroCells zv.cells n).toList 0 g.w (fun j hj=>(hth j hj).1) (fun j hj=>(hth j hj).2) hcell1;simp only [cU] at hst;have hrun:(execOp a.eval oo).run P g.w=.ok (.value (.tuple #[])) (g.w.setCells B (o * Enc.k α) (Builtin.zeroCells zv.cells n).toList):=by
           have h1:c.args=#[x]:=Tb hargs;have h2:c.argTypes=#[t]:=Tb htys;have hbase:base=some ⟨B,o * Enc.k α,none⟩:=by rw [hxe] at e2; exact (Value.slice.inj e2).1
           have hrc:=Jzx (P:=P) (ty:=oo.type) k1 i1 i2 ⟨B,o * Enc.k α,none⟩ n cap0 hn0 hst;rw [hbase] at hxe;simp [execOp,hop,resolve,hcal,h1,h2,invoke,builtin,hxe,hrc]
          have hbut:=Pr g.w B (o * Enc.k α) (Builtin.zeroCells zv.cells n).toList;have hk':∀ cs∈(L.take o++List.replicate n z++L.drop (o+n)).map cellsOf,cs.length=Enc.k α:=fun cs hcs=>by
           obtain ⟨y,hy,rfl⟩:=bN.1 hcs;rcases aY.1 hy with hy|hy
           ·rcases aY.1 hy with hy|hy
            ·exact q3 _ (bN.2 ⟨y,List.mem_of_mem_take hy,rfl⟩)
            ·rw [(List.mem_replicate.1 hy).2]; exact hz
           ·exact q3 _ (bN.2 ⟨y,List.mem_of_mem_drop hy,rfl⟩)
          have hv':Kg (fun p v=>Jv g.S g.w p v/\p.one=true) ((L.take o++List.replicate n z++L.drop (o+n)).map cellsOf).flatten (vs.take (o * Enc.k α)++(Builtin.zeroCells zv.cells n).toList++vs.drop (o * Enc.k α+(Builtin.zeroCells zv.cells n).toList.length)):=by
           rw [hmapM,Kd8 _ o n _ q3 hz oG,hzc];exact v1.splice (Jb1 hdat n) _
          have hth0:g.w.there B 0 vs.length:=fun i hi=>p5 i oG;obtain ⟨h2',e2'⟩:=hg.exWorld (t:=tk) (xss':=(L.take o++List.replicate n z++L.drop (o+n)).map cellsOf) (w':=g.w.setCells B (o * Enc.k α) (Builtin.zeroCells zv.cells n).toList) (S':=g.S) hX e3 hc0
           ⟨hbut.os,hbut.tape,hbut.output,dT hbut.size.symm,fun i _ hne=>hbut.block i hne,DR.of_le (dT hbut.drawn.symm)⟩ (fun _ _ e=>e) (fun _ _ e=>.inl e) (by simp; omega) hk' (World.there_setCells p5 _ _ _) (hv'.monoD (fun _ _ e=>e) (fun B' o' ho=>hbut.cell fun e=>p4 o' (e▸ho)) fun B' ho=>hbut.block _ fun e=>p4 0 (e▸ho 0)) (Jbk v2 oG hth0)
          unfold Oper.wp;rw [hrun];exact hK _ _ h2' e2' (Rel.any _ _)
      ·cases h
     ·cases h
    ·cases h
   ·cases h
  ·cases h
 ·cases hM
end
end PM
namespace PM
open Go Go.RowKit
theorem Wr.mono{E E':Nat->Prop}{a b:World}(h:Wr E a b)(hE:∀ B,E B->E' B):Wr E' a b:=⟨h.os,h.tape,h.output,h.size,fun k hk he=>h.block k hk fun e=>he (hE k e),h.dr⟩
structure XIn (S:Qa) (w:World) (k b:Nat) (xss:List (List PV)) (hv:Value):Prop where
 k0:k≠0
 ks:∀ cs∈xss,cs.length=k
 l1:xss.length * b<=140737488351232
 l2:xss.length<=140737488351232
 lies:(Tg hv/\xss=[])\/∃ B cap,hv=.slice (some ⟨B,0,none⟩) xss.length cap/\0<cap/\xss.length<=cap/\B<w.heap.size/\(∀ o,¬ S B o)/\(∃ us,Kg (fun p v=>Jv S w p v/\p.one=true) xss.flatten us/\w.rangeAt B 0 us)/\w.there B 0 (cap * k)
def Jae(P:Program)(Gl:GL)(f:FuncId)(k b:Nat)(xss:List (List PV))(args:List PV)(m:Option Nat)(xss':List (List PV)):Prop :=
 Jv6 P f/\∀ (S:Qa) (w:World) (hv:Value) (vs:Array Value),(∀ B o,S B o->B<w.heap.size)->(∀ i cs,Gl i=some cs->Gw S w cs i)->XIn S w k b xss hv->Kg (Jv S w) args vs.toList ->
  Calls P f (#[hv]++vs) w fun e w'=>∃ v S',e=.returned v/\Wr (HB hv) w w'/\(∀ B o,S B o->S' B o)/\(∀ B o,S' B o->S B o\/(w.heap.size<=B/\B<w'.heap.size))/\XIn S' w' k b xss' hv/\xss'.length=xss.length/\∀ m',m=some m'->m'<=xss'.length/\Jba hv xss'.length k 0 m' v
def Jl3(P:Program)(Gl:GL)(f:FuncId)(args:List PV)(k b:Nat)(xss:List (List PV)):Prop :=
 Jv6 P f/\∀ (S:Qa) (w:World) (vs:Array Value),(∀ B o,S B o->B<w.heap.size)->(∀ i cs,Gl i=some cs->Gw S w cs i)->Kg (Jv S w) args vs.toList ->
  Calls P f vs w fun e w'=>∃ v S',e=.returned v/\Pt w.heap.size w w'/\(∀ B o,S B o->S' B o)/\(∀ B o,S' B o->S B o\/(w.heap.size<=B/\B<w'.heap.size))/\XIn S' w' k b xss v/\∀ B,HB v B->w.heap.size<=B
section
variable {P:Program} {Gl:GL} {S0:Bs} {w0:World} {s:PSt} {a:Act} {g:GG} {Ls r:List (Oper×Gd)} {Q:PSt->Prop}
theorem Kh.xin(h:Kh Gl S0 w0 s a g){t k b:Nat}{xss:List (List PV)}(hx:s.X t=some (k,b,xss)):XIn g.S g.w k b xss (g.hd t):=by
 obtain ⟨_,q2,q3,q4,q5,q6⟩:=h.exs t k b xss hx;refine ⟨q2,q3,q4,q5, ?_⟩;rcases q6 with q|⟨B,cap,e1,hc,r1,r2,r3,r4,r5,r6,_⟩
 ·exact .inl q
 ·exact .inr ⟨B,cap,e1,hc,r1,r3,r4,r5,r6⟩
theorem Kh.xafter(h:Kh Gl S0 w0 s a g){t k b:Nat}{xss xss':List (List PV)}{w':World}{S':Qa}(hx:s.X t=some (k,b,xss))(hb:Wr (HB (g.hd t)) g.w w')(hS1:∀ B o,g.S B o->S' B o)(hS2:∀ B o,S' B o->g.S B o\/(g.w.heap.size<=B/\B<w'.heap.size))(hin:XIn S' w' k b xss' (g.hd t))(hl:xss'.length=xss.length):Kh Gl S0 w0 { s with X:=upd s.X t (some (k,b,xss')) } a { g with w:=w',S:=S' }/\GLe g { g with w:=w',S:=S' }:=by
 obtain ⟨q1,q2,q3,q4,q5,q6⟩:=h.exs t k b xss hx;rcases q6 with ⟨e1,e2⟩|⟨B,cap,e1,hc,_⟩
 ·have hno:∀ B,¬ HB (g.hd t) B:=by
   rintro B ⟨off,m,cap,e,hc⟩;rcases e1 with e1|⟨_,e1⟩
   ·rw [e1] at e; cases e
   ·rw [e1] at e; cases e; omega
  subst e2;have e3:xss'=[]:=aO (by rw [hl]; rfl);subst e3;have hX2:upd s.X t (some (k,b,[]))=s.X:=by
   funext y
   by_cases e:y=t
   ·subst e; rw [Kr,hx]
   ·rw [Kc _ _ _ _ e]
  rw [hX2];exact h.grow (hb.toBelow hno) hS1 hS2
 ·have hE:∀ B',HB (g.hd t) B'->B'=B:=by
   rintro B' ⟨off,m,cap',e,_⟩;rw [e1] at e; cases e; rfl
  rcases hin.lies with ⟨f1,f2⟩|⟨B',cap',f1,f2,f3,f4,f5,⟨us,f6,f7⟩,f8⟩
  ·rcases f1 with f1|⟨_,f1⟩
   ·rw [f1] at e1; cases e1
   ·rw [f1] at e1; simp only [Value.slice.injEq] at e1; omega
  ·rw [e1] at f1; simp only [Value.slice.injEq,aP,Addr.mk.injEq,and_true] at f1;obtain ⟨rfl,_,rfl⟩:=f1;exact h.exWorld hx e1 hc (hb.mono hE) hS1 hS2 hl hin.ks f8 f6 f7
theorem Jba.ex{S:Qa}{w:World}{k b m:Nat}{xss:List (List PV)}{hv v:Value}(hin:XIn S w k b xss hv)(hm:m<=xss.length)(hv':Jba hv xss.length k 0 m v):∃ x cap,v=.slice x m cap/\m<=cap/\(0<m->∃ B off,x=some ⟨B,off,none⟩):=by
 rcases hv' with ⟨e1,e2,_,e4⟩|⟨B,cap,off,e1,e2,e3,e4,e5,_⟩
 ·subst e1; subst e4;rcases hin.lies with ⟨f1|⟨_,f1⟩,_⟩|⟨B',cap',f1,_⟩
  ·exact ⟨_,_,f1,aJ _,fun q=>by omega⟩
  ·exact ⟨_,_,f1,aJ _,fun q=>by omega⟩
  ·rw [e2] at f1; exact ⟨_,_,f1,dO _,fun q=>by omega⟩
 ·exact ⟨_,_,e5,by omega,fun _=>⟨_,_,rfl⟩⟩
def Jnu : List (Oper×Gd)->PSt->Option (FuncId×(Nat×Nat×Nat×Nat×Nat)×List PV)
 | (o,.always)::_,s=>match Vx o.op with
  | some (x,y::args)=>match s.ev x,s.ev y,Sg (args.map s.ev) with
   | .fn f [],.ex t k b N 0 n,some as=>some (f,(t,k,b,N,n),as)
   | _,_,_=>none
  | _=>none
 | _,_=>none
theorem Joq{f:FuncId}{t k b N:Nat}{xss xss':List (List PV)}{as:List PV}{m:Option Nat}(h0:(Jnu Ls s).map (fun x=>(x.1,x.2.1,Rg as x.2.2))=some (f,(t,k,b,N,N),as))(hX:s.X t=some (k,b,xss))(hT:s.T t=some (N,0))(hc:Jae P Gl f k b xss as m xss') :
  ∃ o rest,Ls=(o,.always)::rest/\Je3 o.op=false /\
   Kam P Gl o s { s with X:=upd s.X t (some (k,b,xss')) } .any /\
   ∀ m',m=some m'->Kam P Gl o s { s with X:=upd s.X t (some (k,b,xss')) } (.ex t k b N 0 m')/\Kam P Gl o s { s with X:=upd s.X t none } (.lst .frozen k b (xss'.take m')):=by
 obtain ⟨y0,h,hy0⟩:=aD.1 h0;clear h0;obtain ⟨f0,p0,qs⟩:=y0;simp only [aM] at hy0;obtain ⟨rfl,rfl,hdc⟩:=hy0;unfold Jnu at h;split at h
 ·rename_i s0 o rest;split at h
  ·rename_i x y args hco;split at h
   ·rename_i f' t' k' b' N' n as' e1 e2 e3;simp only [aP,aM] at h;obtain ⟨rfl,⟨rfl,rfl,rfl,rfl,hn'⟩,rfl⟩:=h;subst hn';obtain ⟨c,hop,hcal,hargs⟩:=Zg hco;have hmv:Je3 o.op=false:=by rw [hop]; rfl
    obtain ⟨⟨fn,hfn1,hfn2,hfn3⟩,hcall⟩:=hc;have key:∀ (S0:Bs) (w0:World) (a:Act) (g:GG) (K:Act->World->Prop) (Q:Exit->Act->World->Prop),Kh Gl S0 w0 s a g ->
      (∀ z g',Kh Gl S0 w0 { s with X:=upd s.X t' (some (k',b',xss')) } a g'->GLe g g'->(∀ m',m=some m'->m'<=xss'.length/\Jba (g'.hd t') xss'.length k' 0 m' z/\g'.T t'=some (xss'.length,0))->K (a.put o.dst z) g'.w)->o.wp P a g.w K Q:=by
     intro S0 w0 a g K Q hg hK;have hx:=hg.ev x;rw [e1] at hx;simp only [Rel,Ks,Kk] at hx;obtain ⟨arr,hfv,hcaps⟩:=hx;have harr:arr=#[]:=cM.1 (by rw [hcaps.nil_left]);subst harr;have hall:Kg (Rel g) (args.map s.ev) (args.map a.eval):=⟨by simp,fun i p v hp hv=>by
      rw [aN] at hp hv;cases hi:args[i]? with
      | none=>rw [hi] at hp; cases hp
      | some y=>rw [hi] at hp hv; cases hp; cases hv; exact hg.ev y⟩
     have hD:=Ox (ps:=as) (Li hall e3);rw [hdc] at hD;have hy:=hg.ev y;rw [e2] at hy;simp only [Rel,Ks,Kk] at hy;obtain ⟨_,N2,f1,f2,f3⟩:=hy;obtain ⟨q1,q2,q3,q4,q5,q6⟩:=hg.exs t' k' b' xss hX;have hNx:n=xss.length:=by
      have:=q1;rw [hg.hT,hT] at this; simp only [aP,aM] at this; exact this.1
     rw [q1] at f1; cases f1;have hvh:a.eval y=g.hd t':=by
      rcases f3 hNx with ⟨e1,_⟩|⟨B,cap,off,e1,e0,_,_,e2,e3⟩
      ·exact e1
      ·rw [e1,e2,show off=0 by omega]; simp
     have hrun:(execOp a.eval o).run P g.w=.ok (.enter f' (#[a.eval y]++(args.map a.eval).toArray)) g.w:=by
      have hname:fn.name ≠ "runtime.NumGoroutine" := by simpa using hfn2
      have hbody:fn.body≠none:=fun e=>by rw [e] at hfn3; cases hfn3
      have hca:c.args.map a.eval++#[]=#[a.eval y]++(args.map a.eval).toArray:=cM.1 (by simp [hargs]);simp [execOp,hop,resolve,hcal,hfv,Deferred.ofValue,invoke,callFunc,run_program,hfn1,hname,hbody]
      simpa using hca
     unfold Oper.wp;rw [hrun,hvh];refine (hcall g.S g.w (g.hd t') _ hg.lt hg.glob (hg.xin hX) (by simpa using hD)).mono fun e w' he=>?_;obtain ⟨v,S',rfl,s1,s2,s3,s4,s5,s6⟩:=he;obtain ⟨h1,g3⟩:=hg.xafter hX s1 s2 s3 s4 s5;exact hK v _ h1 g3 fun m' e=>⟨(s6 m' e).1,(s6 m' e).2,by rw [s5]; exact q1⟩
    refine ⟨o,rest,rfl,hmv,fun S0 w0 a g K Q hg hK=>key S0 w0 a g K Q hg fun z g' i1 i2 _=>hK z g' i1 i2 (Rel.any _ _),fun m' hm'=>⟨fun S0 w0 a g K Q hg hK=>key S0 w0 a g K Q hg fun z g' i1 i2 i3=>?_,fun S0 w0 a g K Q hg hK=>key S0 w0 a g K Q hg fun z g' i1 i2 i3=>?_⟩⟩
    ·obtain ⟨j1,j2,j3⟩:=i3 m' hm';refine hK z g' i1 i2 ?_;have hN:n=xss'.length:=by
      rw [i1.hT] at j3;have:s.T t'=some (xss'.length,0):=j3;rw [hT] at this; simp only [aP,aM] at this; exact this.1
     simp only [Rel,Ks,Kk];exact ⟨Jba.ex (i1.xin (Kr _ _ _)) j1 j2,xss'.length,j3,dT hN,fun _=>by rw [hN]; exact j2⟩
    ·obtain ⟨j1,j2,_⟩:=i3 m' hm';obtain ⟨S',k1,k2,k3⟩:=i1.exShare (t:=t') (k:=k') (b:=b') (xss:=xss') (Kr _ _ _);refine hK z { g' with S:=S' } (by rw [Kbg] at k1; exact k1) (i2.trans k2) (Rel.of1 ?_);have:=k3 0 m' z oG j2;exact Kk.of_data (by simpa using this) rfl
   ·cases h
  ·cases h
 ·cases h
section
variable {α:Type} [Enc α]
theorem Ly{f:FuncId}{t N:Nat}{L L':List α}{as:List PV}(h:(Jnu Ls s).map (fun x=>(x.1,x.2.1,Rg as x.2.2))=some (f,(t,Enc.k α,Enc.b α,N,N),as))(hX:s.X t=some (Enc.k α,Enc.b α,L.map cellsOf))(hT:s.T t=some (N,0))(hc:Jae P Gl f (Enc.k α) (Enc.b α) (L.map cellsOf) as none (L'.map cellsOf))(h2:Jy P Gl false (Ls.drop 1) (({ s with X:=upd s.X t (some (Enc.k α,Enc.b α,L'.map cellsOf)) }:PSt).put (Uk Ls) .any) Q):Jy P Gl false Ls s Q:=by
 obtain ⟨o,rest,rfl,h3,h4,_⟩:=Joq h hX hT hc;exact Jay h3 h4 h2
theorem Kek{f:FuncId}{t m N:Nat}{L L':List α}{as:List PV}(h:(Jnu Ls s).map (fun x=>(x.1,x.2.1,Rg as x.2.2))=some (f,(t,Enc.k α,Enc.b α,N,N),as))(hX:s.X t=some (Enc.k α,Enc.b α,L.map cellsOf))(hT:s.T t=some (N,0))(hc:Jae P Gl f (Enc.k α) (Enc.b α) (L.map cellsOf) as (some m) (L'.map cellsOf))(h2:Jy P Gl false (Ls.drop 1) (({ s with X:=upd s.X t none }:PSt).put (Uk Ls) (Ji .frozen (L'.take m))) Q):Jy P Gl false Ls s Q:=by
 obtain ⟨o,rest,rfl,h3,_,h4⟩:=Joq h hX hT hc;refine Jay h3 (h4 m rfl).2 ?_
 simpa [Jap,Ji,eY,Uk] using h2
theorem Jj4{f:FuncId}{as:List PV}{L:List α}(tk:Nat)(hc:Jl3 P Gl f as (Enc.k α) (Enc.b α) (L.map cellsOf))(h0:(Jlz Ls s).map (fun x=>(x.1,Rg as x.2))=some (f,as))(hT:((s.T tk).isNone&&decide (tk<1000000000))=true)(h2:Jy P Gl false (Ls.drop 1) (({ s with T:=upd s.T tk (some ((L.map cellsOf).length,0)),X:=upd s.X tk (some (Enc.k α,Enc.b α,L.map cellsOf)) }:PSt).put (Uk Ls) (.ex tk (Enc.k α) (Enc.b α) (L.map cellsOf).length 0 (L.map cellsOf).length)) Q):Jy P Gl false Ls s Q:=by
 simp only [aI,decide_eq_true_eq] at hT;obtain ⟨hT1,hT2⟩:=hT;have hT1':s.T tk=none:=by simpa using hT1
 obtain ⟨y0,h,hy0⟩:=aD.1 h0;clear h0;obtain ⟨f0,qs⟩:=y0;simp only [aM] at hy0;obtain ⟨rfl,hdc⟩:=hy0;unfold Jlz at h;split at h
 ·rename_i s0 o rest;split at h
  ·rename_i x args hco;split at h
   ·rename_i f' caps e1;split at h
    ·rename_i hcapok;obtain ⟨qs',e3,h'⟩:=aD.1 h;simp only [aM] at h';obtain ⟨rfl,rfl⟩:=h';obtain ⟨c,hop,hcal,hargs⟩:=Zg hco;obtain ⟨⟨fn,hfn1,hfn2,hfn3⟩,hcall⟩:=hc;refine Jay (n:={ s with T:=upd s.T tk (some ((L.map cellsOf).length,0)),X:=upd s.X tk (some (Enc.k α,Enc.b α,L.map cellsOf)) }) (v:=.ex tk (Enc.k α) (Enc.b α) (L.map cellsOf).length 0 (L.map cellsOf).length) (by rw [hop]; rfl) ?_ h2;intro S0 w0 a g K Q' hg hK;have hx:=hg.ev x;rw [e1] at hx;simp only [Rel,Ks,Kk] at hx;obtain ⟨arr,hfv,hcaps⟩:=hx;have hcapsR:Kg (Rel g) caps arr.toList:=⟨hcaps.1,fun i p v hp hv=>by
      have h1:=hcaps.2 i p v hp hv;have h2:=aK.1 hcapok p (aC hp);cases p <;> simp only [Ev] at h2 <;> try cases h2
      all_goals exact h1⟩
     have hall:Kg (Rel g) (args.map s.ev++caps) (args.map a.eval++arr.toList):=Kg.append ⟨by simp,fun i p v hp hv=>by
      rw [aN] at hp hv;cases hi:args[i]? with
      | none=>rw [hi] at hp; cases hp
      | some y=>rw [hi] at hp hv; cases hp; cases hv; exact hg.ev y⟩ hcapsR
     have hD:=Ox (ps:=as) (Li hall e3);rw [hdc] at hD;have hrun:(execOp a.eval o).run P g.w=.ok (.enter f' ((args.map a.eval++arr.toList).toArray)) g.w:=by
      have hname:fn.name ≠ "runtime.NumGoroutine" := by simpa using hfn2
      have hbody:fn.body≠none:=fun e=>by rw [e] at hfn3; cases hfn3
      have hca:c.args.map a.eval++arr=(args.map a.eval++arr.toList).toArray:=cM.1 (by simp [hargs]);simp [execOp,hop,resolve,hcal,hfv,Deferred.ofValue,invoke,callFunc,run_program,hfn1,hname,hbody]
      simpa using hca
     unfold Oper.wp;rw [hrun];refine (hcall g.S g.w _ hg.lt hg.glob (by simpa using hD)).mono fun e w' he=>?_;obtain ⟨v,S',rfl,s1,s2,s3,s4,s5⟩:=he;obtain ⟨h1,g1⟩:=hg.grow s1 s2 s3;have hgT:g.T tk=none:=by rw [hg.hT]; exact hT1'
     have hin:(Tg v/\L.map cellsOf=[])\/∃ B cap,v=.slice (some ⟨B,0,none⟩) (L.map cellsOf).length cap/\0<cap/\ExB { g with w:=w',S:=S' } S0.E w0.heap.size tk (Enc.k α) (L.map cellsOf) B cap/\∀ t',t'≠tk->¬ XB s.X { g with w:=w',S:=S' } t' B:=by
      rcases s4.lies with q|⟨B,cap,q1,q2,q3,q4,q5,q6,q7⟩
      ·exact .inl q
      ·have hB:g.w.heap.size<=B:=s5 B ⟨_,_,_,q1,q2⟩;refine .inr ⟨B,cap,q1,q2,⟨q3,.inl (bG hg.below.size hB),q4,q5,q6,q7,fun l hl e=>?_,fun t' hs=>?_⟩,fun t' _ hs=>?_⟩
       ·obtain ⟨ob,hob⟩:=aL.1 hl;have hlt:=(hg.objs l ob hob).2.1;have e':g.φ l=B:=e;omega
       ·have:=Wi.lt hg (hs.congr rfl rfl);omega
       ·have:=(XB.lt hg (hs.congr rfl)).1;omega
     obtain ⟨h3,g3⟩:=h1.exHead (t:=tk) (k:=Enc.k α) (b:=Enc.b α) (xss:=L.map cellsOf) (v:=v) (fun n0 k0 q=>by have:g.T tk=some (n0,k0):=q; rw [hgT] at this; cases this) (fun _=>hT2) (fun q=>absurd hgT q) s4.k0 s4.ks s4.l1 s4.l2 hin;refine hK v _ h3 (g1.trans g3) ?_;simp only [Rel,Ks,Kk];have hview:Jba v (L.map cellsOf).length (Enc.k α) 0 (L.map cellsOf).length v:=by
      rcases s4.lies with ⟨_,q⟩|⟨B,cap,q1,q2,q3,_⟩
      ·exact .inl ⟨rfl,by rw [q]; rfl,rfl,by rw [q]; rfl⟩
      ·exact .inr ⟨B,cap,0,q1,q2,q3,by omega,by rw [q1]; simp,by simp⟩
     exact ⟨Jba.ex s4 (aJ _) hview,_,Kr _ _ _,aJ _,fun _=>by simpa using hview⟩
    ·cases h
   ·cases h
  ·cases h
 ·cases h
end
def T0 : Nat:=1000000000
def Kdn(k b:Nat)(xss:List (List PV))(args:List PV)(n:Nat):PSt:=⟨.ex T0 k b xss.length 0 xss.length::args++List.replicate (n - args.length - 1) .any,fun _=>none,upd (fun _=>none) T0 (some (xss.length,0)),upd (fun _=>none) T0 (some (k,b,xss)),0⟩
def Juw(P:Program)(Gl:GL)(rs:List ResultVar)(k b N:Nat)(m:Option Nat)(xss':List (List PV))(s:PSt):Prop :=
 (s.X T0,s.T T0,Sq P Gl s rs)=(some (k,b,xss'),some (N,0),some (match m with|none=>[]|some m'=>[.ex T0 k b N 0 m']))
def Kd5(P:Program)(Gl:GL)(rs:List ResultVar)(k b N:Nat)(m:Option Nat)(xss':List (List PV)):Exit->PSt->Prop
 | .normal,s=>Juw P Gl rs k b N m xss' s
 | .ret,s=>Juw P Gl rs k b N m xss' s
 | _,_=>False
theorem Juv{f:FuncId}{fn:Func}{c:Code}{args:List PV}{k b n:Nat}{xss xss':List (List PV)}{m:Option Nat}{rs:List ResultVar}(hf:P.funcs[f]? = some fn)(hname:(fn.name == "runtime.NumGoroutine")=false)(hb:fn.body=some c)(hn:fn.ntmps=n)(hrs:fn.results.toList=rs)(hflat:args.all Cn=true)(h:pwp P Gl c (Kd5 P Gl rs k b xss.length m xss') (Kdn k b xss args n)):Jae P Gl f k b xss args m xss':=by
 refine ⟨⟨fn,hf,hname,by rw [hb]; rfl⟩,fun S w hv vs hS hglob hin hargs=>?_⟩;subst hn; subst hrs;refine calls_of_wp hf hb ?_;have hsz:args.length=vs.size:=by rw [hargs.1]; simp
 have hview:Jba hv xss.length k 0 xss.length hv:=by
  rcases hin.lies with ⟨_,q⟩|⟨B,cap,q1,q2,q3,_⟩
  ·exact .inl ⟨rfl,by rw [q]; rfl,rfl,by rw [q]; rfl⟩
  ·exact .inr ⟨B,cap,0,q1,q2,q3,by omega,by rw [q1]; simp,by simp⟩
 have hT0:∀ t x,upd (fun _=>none) T0 (some (xss.length,0)) t=some x->t=T0/\x=(xss.length,0):=fun t x e=>by
  by_cases q:t=T0
  ·rw [q,Kr] at e; cases e; exact ⟨q,rfl⟩
  ·rw [Kc _ _ _ _ q] at e; cases e
 have hX0:∀ t x,upd (fun _=>none) T0 (some (k,b,xss)) t=some x->t=T0/\x=(k,b,xss):=fun t x e=>by
  by_cases q:t=T0
  ·rw [q,Kr] at e; cases e; exact ⟨q,rfl⟩
  ·rw [Kc _ _ _ _ q] at e; cases e
 have hEB:∀ B,Bs.E ⟨S,fun _ _=>False,fun t v n=>t=T0/\v=hv/\n=xss.length,[],[]⟩ B->HB hv B:=by
  rintro B (⟨_,q⟩|⟨t,v,n,⟨_,rfl,_⟩,off,m,cap,q1,q2⟩)
  ·exact q.elim
  ·exact ⟨off,m,cap,q1,q2⟩
 have hinit:Inv Gl ⟨S,fun _ _=>False,fun t v n=>t=T0/\v=hv/\n=xss.length,[],[]⟩ w (Kdn k b xss args fn.ntmps) { tmps:=(#[hv]++vs)++Array.replicate (fn.ntmps - (#[hv]++vs).size) undef,defers:=[] } w:=by
  refine ⟨⟨S,w,fun _=>0,fun _=>hv,fun _=>none,upd (fun _=>none) T0 (some (xss.length,0))⟩,rfl,{ hH:=rfl,hT:=rfl,defers:=rfl,len:=?_,tm:=fun i p v hp hv'=>?_,sub:=fun _ _ h=>h,new:=fun _ _ h=>.inl h,lt:=hS,below:=Wr.refl _ _,objs:=(fun l ob e=>by cases e),inj:=(fun l l' e=>by cases e),owns:=fun t n' k' e=>?_,ownsEx:=fun t t' B hs hs'=>?_,ownsObj:=(fun t B l _ hl=>by cases hl),glob:=hglob,exs:=fun t k' b' xss0 e=>?_,exsEx:=fun t t' B hs hs'=>?_,fix:=fun _ _ e=>e.elim,fixT:=fun t v n hF=>?_ }⟩
  ·simp [Kdn,hsz]; omega
  ·simp only [Kdn] at hp;simp only [bE,cB] at hv';cases i with
   | zero=>
    simp only [bO,eL] at hp;cases hp;have hv0:v=hv:=by
     rw [Array.append_assoc,cN sG] at hv'
     simpa using hv'.symm
    subst hv0;simp only [Rel,Ks,Kk];exact ⟨Jba.ex hin (aJ _) hview,_,Kr _ _ _,aJ _,fun _=>hview⟩
   | succ i=>
    simp only [bO,dI] at hp;have hv1:(vs++Array.replicate (fn.ntmps - (#[hv]++vs).size) undef)[i]? = some v:=by
     rw [Array.append_assoc,Array.getElem?_append_right sG] at hv'
     simpa using hv'
    rw [aU] at hp
    by_cases hi:i<args.length
    ·rw [if_pos hi] at hp;rw [cN oG] at hv1;exact Rel.ofData (g:=⟨S,w,_,_,_,_⟩) (hargs.2 i p v hp (by simpa using hv1)) (aK.1 hflat p (aC hp))
    ·rw [if_neg hi,cE] at hp;split at hp
     ·cases hp; trivial
     ·cases hp
  ·obtain ⟨rfl,e2⟩:=hT0 t _ e;cases e2;rcases hin.lies with ⟨q1,q2⟩|⟨B,cap,q1,q2,q3,q4,_⟩
   ·exact .inl ⟨q1,by rw [q2]; rfl⟩
   ·exact .inr ⟨B,0,cap,q1,q3,fun _=>⟨fun q=>absurd rfl q,q4,fun j hj=>by simp at hj,fun q=>absurd rfl q⟩⟩
  ·obtain ⟨n1,k1,o1,c1,e1,_⟩:=hs;obtain ⟨n2,k2,o2,c2,e2,_⟩:=hs';exact (hT0 t _ e1).1.trans (hT0 t' _ e2).1.symm
  ·obtain ⟨rfl,e2⟩:=hX0 t _ e;cases e2;refine ⟨(by show upd (fun _=>none) T0 (some (xss.length,0)) T0=some (xss.length,0); exact Kr _ _ _),hin.k0,hin.ks,hin.l1,hin.l2, ?_⟩;rcases hin.lies with q|⟨B,cap,q1,q2,q3,q4,q5,q6,q7⟩
   ·exact .inl q
   ·refine .inr ⟨B,cap,q1,q2,q3,.inr (.inr ⟨T0,hv,xss.length,⟨rfl,rfl,rfl⟩,0,_,cap,q1,q2⟩),q4,q5,q6,q7,(fun l hl=>by cases hl),fun t' hs=>?_⟩;obtain ⟨n1,k1,o1,c1,e1,_⟩:=hs;exact (hT0 t' _ e1).1
  ·obtain ⟨x,hx⟩:=aL.1 hs.1;obtain ⟨x',hx'⟩:=aL.1 hs'.1;exact (hX0 t _ hx).1.trans (hX0 t' _ hx').1.symm
  ·obtain ⟨rfl,rfl,rfl⟩:=hF;exact ⟨aJ _,fun n0 e=>by
    have e':upd (fun _=>none) T0 (some (xss.length,0)) T0=some (n0,0):=e;cases (hT0 _ _ e').2; exact ⟨aJ _,fun _=>rfl,fun _ q=>.inl q⟩⟩
 refine Zl (fun e a' w' hq=>?_) (h ⟨S,fun _ _=>False,fun t v n=>t=T0/\v=hv/\n=xss.length,[],[]⟩ w _ w hinit);obtain ⟨s',hq,g,rfl,hg⟩:=hq;have fin:Juw P Gl fn.results.toList k b xss.length m xss' s'->a'.defers=[]/\∃ v,(results fn a'.tmps).run P g.w=.ok v g.w/\∃ v_1 S',Ending.returned v=.returned v_1/\Wr (HB hv) w g.w/\(∀ B o,S B o->S' B o)/\(∀ B o,S' B o->S B o\/(w.heap.size<=B/\B<g.w.heap.size))/\XIn S' g.w k b xss' hv/\xss'.length=xss.length/\∀ m',m=some m'->m'<=xss'.length/\Jba hv xss'.length k 0 m' v_1:=by
  intro hfin;simp only [Juw,aM] at hfin;obtain ⟨f1,f2,f3⟩:=hfin;refine ⟨hg.defers, ?_⟩;obtain ⟨us,r1,r2⟩:=Pe hg _ _ f3;have hlen:xss'.length=xss.length:=by
   have:=(hg.exs _ _ _ _ f1).1;rw [hg.hT,f2] at this; simp only [aP,aM] at this; exact this.1.symm
  have hgT:g.T T0=some (xss.length,0):=by rw [hg.hT]; exact f2
  have hhd:g.hd T0=hv:=(((hg.fixT T0 hv xss.length ⟨rfl,rfl,rfl⟩).2 _ hgT).2.1 rfl)
  have hxin:=hg.xin f1;rw [hhd] at hxin;refine ⟨if h:us.toArray.size=1 then us.toArray[0] else .tuple us.toArray, ?_,_,g.S,rfl,hg.below.mono hEB,hg.sub,fun B o ho=>?_,hxin,hlen,fun m' hm'=>?_⟩
  ·rw [Fp,cF];simp only [Sem.run_bind,Sem.run_map,r1,Result.andThen_ok,Sem.run_pure]
  ·rcases hg.new B o ho with e|e|e
   ·exact .inl e
   ·exact .inr ⟨e,hg.lt B o ho⟩
   ·obtain ⟨off,mm,cap,e1,e2⟩:=hEB B e;rcases hxin.lies with ⟨q1|⟨_,q1⟩,_⟩|⟨B',cap',q1,_,_,_,q5,_⟩
    ·rw [q1] at e1; cases e1
    ·rw [q1] at e1; cases e1; omega
    ·rw [q1] at e1; cases e1; exact absurd ho (q5 o)
  ·subst hm';obtain ⟨v,vs',rfl,r3,r4⟩:=r2.cons_left;rw [r4.nil_left];simp only [Rel,Ks,Kk] at r3;obtain ⟨_,N',t1,t2,t3⟩:=r3;rw [hgT] at t1; cases t1;have ht3:=t3 rfl;rw [hhd] at ht3;refine ⟨?_, ?_⟩
   ·rw [hlen];rcases ht3 with ⟨_,q,_,q2⟩|⟨_,_,_,_,_,_,q,_⟩ <;> omega
   ·rw [hlen]
    simpa using ht3
 cases e with
 | normal=>exact fin hq
 | ret=>exact fin hq
 | exit id=>exact hq.elim
 | goto l=>exact hq.elim
 | panic ch=>exact hq.elim
 | outgrown=>exact hq.elim
end
end PM
namespace PM
open Go Go.RowKit
section
variable {P:Program} {Gl:GL} {s:PSt} {Q:Exit->PSt->Prop}
def Kji(P:Program)(Gl:GL)(rs:List ResultVar)(k b:Nat)(xss:List (List PV)):Exit->PSt->Prop
 | .normal,s|.ret,s=>∃ t N,(Sq P Gl s rs,s.X t,s.T t)=(some [.ex t k b N 0 N],some (k,b,xss),some (N,0))
 | _,_=>False
theorem Jlt{rs:List ResultVar}{k b:Nat}{xss:List (List PV)}(t N:Nat)(h:(Sq P Gl s rs,s.X t,s.T t)=(some [.ex t k b N 0 N],some (k,b,xss),some (N,0))):Kji P Gl rs k b xss .ret s:=⟨t,N,h⟩
theorem Tu{f:FuncId}{fn:Func}{c:Code}{args:List PV}{k b n:Nat}{xss:List (List PV)}{rs:List ResultVar}(hf:P.funcs[f]? = some fn)(hname:(fn.name == "runtime.NumGoroutine")=false)(hb:fn.body=some c)(hn:fn.ntmps=n)(hrs:fn.results.toList=rs)(hflat:args.all Cn=true)(h:pwp P Gl c (Kji P Gl rs k b xss) (st0 args n)):Jl3 P Gl f args k b xss:=by
 refine ⟨⟨fn,hf,hname,by rw [hb]; rfl⟩,fun S w vs hS hglob hargs=>?_⟩;subst hn; subst hrs;refine calls_of_wp hf hb ?_;have hsz:args.length=vs.size:=by rw [hargs.1]; simp
 have hE:∀ B,¬ Bs.E ⟨S,fun _ _=>False,fun _ _ _=>False,[],[]⟩ B:=fun B e=>e.elim (fun q=>q.elim fun _ q=>q) fun q=>by obtain ⟨_,_,_,q,_⟩:=q; exact q
 have hinit:Inv Gl ⟨S,fun _ _=>False,fun _ _ _=>False,[],[]⟩ w (st0 args fn.ntmps) { tmps:=vs++Array.replicate (fn.ntmps - vs.size) undef,defers:=[] } w:=by
  refine ⟨⟨S,w,fun _=>0,fun _=>undef,fun _=>none,fun _=>none⟩,rfl,{ hH:=rfl,hT:=rfl,defers:=rfl,len:=by simp [st0,hsz],tm:=fun i p v hp hv=>?_,sub:=fun _ _ h=>h,new:=fun _ _ h=>.inl h,lt:=hS,below:=Wr.refl _ _,objs:=(fun l ob e=>by cases e),inj:=(fun l l' e=>by cases e),owns:=(fun t n k e=>by cases e),ownsEx:=(fun t t' B hs=>by obtain ⟨_,_,_,_,e,_⟩:=hs; cases e),ownsObj:=(fun t B l hs=>by obtain ⟨_,_,_,_,e,_⟩:=hs; cases e),glob:=hglob,exs:=(fun t k b xss e=>by cases e),exsEx:=(fun t t' B hs=>by have:=hs.1; cases this),fix:=fun _ _ e=>e.elim,fixT:=fun _ _ _ e=>e.elim }⟩;simp only [st0] at hp;simp only [bE,cB] at hv;rw [aU] at hp
  by_cases hi:i<args.length
  ·rw [if_pos hi] at hp;rw [cN oG] at hv;exact Rel.ofData (g:=⟨S,w,_,_,_,_⟩) (hargs.2 i p v hp (by simpa using hv)) (aK.1 hflat p (aC hp))
  ·rw [if_neg hi,cE] at hp;split at hp
   ·cases hp; trivial
   ·cases hp
 refine Zl (fun e a' w' hq=>?_) (h ⟨S,fun _ _=>False,fun _ _ _=>False,[],[]⟩ w _ w hinit);obtain ⟨s',hq,g,rfl,hg⟩:=hq;have fin:(∃ t N,(Sq P Gl s' fn.results.toList,s'.X t,s'.T t)=(some [.ex t k b N 0 N],some (k,b,xss),some (N,0)))->a'.defers=[]/\∃ v,(results fn a'.tmps).run P g.w=.ok v g.w/\∃ v_1 S',Ending.returned v=.returned v_1/\Pt w.heap.size w g.w/\(∀ B o,S B o->S' B o)/\(∀ B o,S' B o->S B o\/(w.heap.size<=B/\B<g.w.heap.size))/\XIn S' g.w k b xss v_1/\∀ B,HB v_1 B->w.heap.size<=B:=by
  rintro ⟨t,N,hfin⟩;simp only [aM] at hfin;obtain ⟨f3,f1,f2⟩:=hfin;refine ⟨hg.defers, ?_⟩;obtain ⟨us,r1,r2⟩:=Pe hg _ _ f3;obtain ⟨v,vs',rfl,r3,r4⟩:=r2.cons_left;have hnil:=r4.nil_left;subst hnil;have hN:N=xss.length:=by
   have:=(hg.exs _ _ _ _ f1).1;rw [hg.hT,f2] at this; simp only [aP,aM] at this; exact this.1
  simp only [Rel,Ks,Kk] at r3;obtain ⟨_,N',t1,t2,t3⟩:=r3;have hgT:g.T t=some (N,0):=by rw [hg.hT]; exact f2
  rw [hgT] at t1; cases t1;have hvh:v=g.hd t:=by
   rcases t3 rfl with ⟨e1,_⟩|⟨B,cap,off,e1,e0,_,_,e2,e3⟩
   ·exact e1
   ·rw [e1,e2,show off=0 by omega]; simp
  have hxin:=hg.xin f1;rw [<- hvh] at hxin;refine ⟨v, ?_,v,g.S,rfl,hg.below.toBelow hE,hg.sub,fun B o ho=>?_,hxin, ?_⟩
  ·rw [Fp,cF];simp only [Sem.run_bind,Sem.run_map,r1,Result.andThen_ok,Sem.run_pure];simp
  ·rcases hg.new B o ho with e|e|e
   ·exact .inl e
   ·exact .inr ⟨e,hg.lt B o ho⟩
   ·exact absurd e (hE B)
  ·rintro B ⟨off,m,cap,e1,e2⟩;obtain ⟨_,_,hx⟩:=hg.exAt f1 (B:=B) (off:=off) (n:=m) (cap:=cap) (by rw [<- hvh]; exact e1) e2;exact hx.2.1.resolve_right (hE B)
 cases e with
 | normal=>exact fin hq
 | ret=>exact fin hq
 | exit id=>exact hq.elim
 | goto l=>exact hq.elim
 | panic ch=>exact hq.elim
 | outgrown=>exact hq.elim
end
end PM
namespace PM
open Go Go.RowKit
section
variable {P:Program} {Gl:GL} {s:PSt} {d:Bool} {Ls r:List (Oper×Gd)} {Q:PSt->Prop} {S0:Bs} {w0:World} {a:Act} {g:GG}
theorem Jml{w:World}{r:Nat}{b:ByteArray}{pos:Nat}(hb:w.heap[r]? = some (.stringIter b pos)):(getObj r).run P w=.ok (.stringIter b pos) w:=by
 simp [getObj,Sem.run,hb]
theorem Jx8{w:World}{r:Nat}{b:ByteArray}{pos:Nat}(o:Obj)(hb:w.heap[r]? = some (.stringIter b pos)):(setObj r o).run P w=.ok () { w with heap:=w.heap.setIfInBounds r o }:=by
 simp [setObj,Sem.run,hb]
def Ki4(P:Program):List (Oper×Gd)->PSt->Option (ByteArray×Nat)
 | (o,.always)::_,s=>match o.op,o.dst with
  | .range t x,some d=>match s.ev x with
   | .str b=>if (Jk9 P t&&((s.H d).isNone&&decide (d<1000000)))=true then some (b,d) else none
   | _=>none
  | _,_=>none
 | _,_=>none
theorem Khw{b:ByteArray}{l:Nat}(h:Ki4 P Ls s=some (b,l))(h2:Jy P Gl false (Ls.drop 1) (({ s with H:=upd s.H l (some (.iter b 0)) }:PSt).put (some l) (.ref l 0)) Q):Jy P Gl false Ls s Q:=by
 unfold Ki4 at h;split at h
 ·rename_i s0 o rest;split at h
  ·rename_i t x d hop hdst;split at h
   ·rename_i b' hx;split at h
    ·rename_i hc;simp only [aP,aM] at h;obtain ⟨rfl,rfl⟩:=h;simp only [aI,decide_eq_true_eq] at hc;obtain ⟨ht,hH,hd6⟩:=hc;refine Jay (n:={ s with H:=upd s.H d (some (.iter b' 0)) }) (v:=.ref d 0) (by rw [hop]; rfl) ?_ (by rw [hdst]; exact h2);intro S0 w0 a g K Q' hg hK;have hxr:a.eval x=.string b':=by have:=hg.ev x; rw [hx] at this; simpa [Rel,Ks,Kk,Jv] using this
     obtain ⟨h1,e1⟩:=hg.grow' (Oz g.w (.stringIter b' 0));have hz:=hg.below.size;have hl:g.H d=none:=by rw [hg.hH]; simpa using hH
     obtain ⟨h2',e2⟩:=h1.addObj (l:=d) (B:=g.w.heap.size) (ob:=.iter b' 0) hl hd6 (.inl oG) (by show g.w.heap.size<(g.w.alloc _).heap.size; simp) (fun o ho=>by have:=hg.lt _ _ ho; omega)
      (fun l' hl'=>hg.phi_lt l' hl') (fun t ht=>hg.spare_lt t (ht.congr rfl rfl)) (fun t ht=>hg.xb_lt t (ht.congr rfl)) (fun g' hg' hw'=>by show g'.w.heap[_]? = _; rw [hw']; exact heap_alloc_new g.w _)
     have ht':P.underlying t=some .string:=by
      unfold Jk9 at ht;split at ht
      ·assumption
      ·cases ht
     have hrun:(execOp a.eval o).run P g.w=.ok (.value (.pointer (some ⟨g.w.heap.size,0,none⟩))) (g.w.alloc (.stringIter b' 0)):=by
      simp [execOp,hop,Instr.range,hxr,run_underlying ht',newObj,Sem.run]
     unfold Oper.wp;rw [hrun];exact hK _ _ h2' (e1.trans e2) (by simp [Rel,Ks,Kk,upd])
    ·cases h
   ·cases h
  ·cases h
 ·cases h
def Kij : List (Oper×Gd)->PSt->Option Nat
 | (o,.always)::_,s=>match o.op with
  | .next it true=>match s.ev it with
   | .ref l 0=>some l
   | _=>none
  | _=>none
 | _,_=>none
theorem Kdi{b:ByteArray}{pos:Nat}(l:Nat)(hH:s.H l=some (.iter b pos))(hb:decide (pos<b.size)=true)(h:Kij Ls s=some l)(h2:Jy P Gl false (Ls.drop 1) (({ s with H:=upd s.H l (some (.iter b (pos+(Utf8.decode b pos).2))) }:PSt).put (Uk Ls) (.tup [.bool true,.int .i64 (pos:Int),.int .i32 ((Utf8.decode b pos).1:Int)])) Q):Jy P Gl false Ls s Q:=by
 unfold Kij at h;split at h
 ·rename_i s0 o rest;split at h
  ·rename_i it hop;split at h
   ·rename_i l' hx;cases h;refine Jay (n:={ s with H:=upd s.H l (some (.iter b (pos+(Utf8.decode b pos).2))) }) (v:=.tup [.bool true,.int .i64 (pos:Int),.int .i32 ((Utf8.decode b pos).1:Int)]) (by rw [hop]; rfl) ?_ h2;intro S0 w0 a g K Q' hg hK;have hgl:g.H l=some (.iter b pos):=by rw [hg.hH]; exact hH
    obtain ⟨o1,o2,o3,o4⟩:=hg.objs l _ hgl;have o4:g.w.heap[g.φ l]? = some (.stringIter b pos):=o4;have hxr:a.eval it=.pointer (some ⟨g.φ l,0,none⟩):=by have:=hg.ev it; rw [hx] at this; exact this.1
    obtain ⟨hs1,hs2⟩:=MapKept.heap_set (o':=.stringIter b (pos+(Utf8.decode b pos).2)) o4;obtain ⟨h2',e2⟩:=hg.setObj (l:=l) (ob':=.iter b (pos+(Utf8.decode b pos).2)) (w':={ g.w with heap:=g.w.heap.setIfInBounds (g.φ l) (.stringIter b (pos+(Utf8.decode b pos).2)) }) hgl
     ⟨rfl,rfl,rfl,by simp,fun r hr=>hs2 r hr,rfl⟩ (fun cs e=>by cases e) (fun g' hg' hw'=>by show g'.w.heap[_]? = _; rw [hw']; exact hs1)
    have hrun:(execOp a.eval o).run P g.w=.ok (.value (.tuple #[.bool true,.int .i64 (pos:Int),.int .i32 ((Utf8.decode b pos).1:Int)])) { g.w with heap:=g.w.heap.setIfInBounds (g.φ l) (.stringIter b (pos+(Utf8.decode b pos).2)) }:=by
     have hp:pos<b.size:=of_decide_eq_true hb;simp [execOp,hop,Instr.next,hxr,Jml o4,hp,Jx8 _ o4,goInt]
    unfold Oper.wp;rw [hrun];exact hK _ _ h2' e2 ⟨_,rfl,.cons (by simp [Ks,Kk,Jv]) (.cons (by simp [Ks,Kk,Jv]) (.cons (by simp [Ks,Kk,Jv]) .nil))⟩
   ·cases h
  ·cases h
 ·cases h
theorem Kfe{b:ByteArray}{pos:Nat}(l:Nat)(hH:s.H l=some (.iter b pos))(hb:decide (pos<b.size)=false)(h:Kij Ls s=some l)(h2:Jy P Gl false (Ls.drop 1) (s.put (Uk Ls) (.tup [.bool false])) Q):Jy P Gl false Ls s Q:=by
 unfold Kij at h;split at h
 ·rename_i s0 o rest;split at h
  ·rename_i it hop;split at h
   ·rename_i l' hx;cases h;refine Jay (n:=s) (v:=.tup [.bool false]) (by rw [hop]; rfl) ?_ h2;intro S0 w0 a g K Q' hg hK;have hgl:g.H l=some (.iter b pos):=by rw [hg.hH]; exact hH
    obtain ⟨o1,o2,o3,o4⟩:=hg.objs l _ hgl;have o4:g.w.heap[g.φ l]? = some (.stringIter b pos):=o4;have hxr:a.eval it=.pointer (some ⟨g.φ l,0,none⟩):=by have:=hg.ev it; rw [hx] at this; exact this.1
    have hrun:(execOp a.eval o).run P g.w=.ok (.value (.tuple #[.bool false])) g.w:=by
     have hp:¬ pos<b.size:=of_decide_eq_false hb;simp [execOp,hop,Instr.next,hxr,Jml o4,hp]
    unfold Oper.wp;rw [hrun];exact hK _ g hg (GLe.refl g) ⟨_,rfl,.cons (by simp [Ks,Kk,Jv]) .nil⟩
   ·cases h
  ·cases h
 ·cases h
def shm(l:Nat)(ks vs:List PV)(live:PV->Bool)(p:PV):PV :=
 if live p=true then p else match p with
  | .mp l'=>if l'=l then .fmp ks vs else .any
  | _=>.any
def Kbi(l:Nat)(ks vs:List PV)(ls:List Nat)(s:PSt):PSt:=⟨s.tm.map (shm l ks vs (Hr (Fy ls s.H) s.T)),Fy ls s.H,s.T,s.X,s.m⟩
theorem Kh.shareMap(h:Kh Gl S0 w0 s a g){l:Nat}{es:List (PV×PV)}{ls:List Nat}(hl:s.H l=some (.map es))(hn:ls.contains l=false)(hlive:(ls.all fun i=>match s.H i with|some ob=>Jfb (Fy ls s.H) s.T ob|none=>true)=true) :
  ∃ g',Kh Gl S0 w0 (Kbi l (es.map (·.1)) (es.map (·.2)) ls s) a g'/\g'.w=g.w:=by
 have hgl:g.H l=some (.map es):=by rw [h.hH]; exact hl
 obtain ⟨o1,o2,o3,arr,clock,v1,v2⟩:=h.objs l _ hgl;have hkeep:∀ i ob,Fy ls s.H i=some ob->i∈ls/\g.H i=some ob:=fun i ob e=>by
  unfold Fy at e;split at e
  ·rename_i hi; rw [h.hH]; exact ⟨hi,e⟩
  ·cases e
 have hnl:l∉ls:=by simpa using hn
 have hcut:Cut g (Fy ls s.H) s.T:=⟨fun t x e=>by rw [h.hT]; exact e,fun i cs2 e hi=>by
  obtain ⟨ob,hob⟩:=aL.1 hi;obtain ⟨_,e2⟩:=hkeep i ob hob;rw [e] at e2; cases e2;exact ⟨cs2,hob,rfl⟩⟩
 let g1:GG:={ g with H:=Fy ls s.H,T:=s.T }
 let g2:GG:={ g with S:=fun B o=>g.S B o\/B=g.φ l,H:=Fy ls s.H,T:=s.T }
 have hle:GLe g1 g2:=⟨fun _ _ e=>.inl e,fun _ _ _=>rfl,fun _ _=>rfl,fun i ob e=>⟨rfl,ob,e,fun cs2 q=>⟨cs2,q,rfl⟩⟩,fun t n k e=>⟨n,e,aJ _,fun _=>rfl⟩⟩
 have up:∀ (p:PV) (v:Value),Jv g.S g.w p v->Jv g2.S g2.w p v:=fun p v q=>q.mono (fun _ _ e=>.inl e) (fun _ _ _=>rfl) (fun _ _=>rfl);have hsp:∀ t B,Wi g2 t B->Wi g t B:=by
  rintro t B ⟨n,k,off,cap,h1,h2,h3⟩;exact ⟨n,k,off,cap,hcut.T t _ h1,h2,h3⟩
 have href:∀ v,v=Value.map (some (g.φ l))->Jv g2.S g2.w (.fmp (es.map (·.1)) (es.map (·.2))) v:=fun v e=>by
  simp only [Jv];refine ⟨?_,.inr ⟨g.φ l,arr,clock,e,fun o=>.inr rfl,v1,(Wj _ _).2 ⟨by simp [v2.1],fun i p v hp hv=>?_⟩,(Wj _ _).2 ⟨by simp [v2.1],fun i p v hp hv=>?_⟩⟩⟩
  ·rw [aK];intro p hp;obtain ⟨q,hq,rfl⟩:=bN.1 hp;obtain ⟨i,hi⟩:=aS hq;obtain ⟨m,_,hr⟩:=v2.right hi;exact hr.2.2
  ·rw [aN] at hp hv;obtain ⟨q,hq,rfl⟩:=aD.1 hp;obtain ⟨m,hm,rfl⟩:=aD.1 hv;exact up _ _ (v2.2 i q m hq hm).1
  ·rw [aN] at hp hv;obtain ⟨q,hq,rfl⟩:=aD.1 hp;obtain ⟨m,hm,rfl⟩:=aD.1 hv;exact up _ _ (v2.2 i q m hq hm).2.1
 refine ⟨g2,{ hH:=rfl,hT:=rfl,defers:=h.defers,len:=by simpa [Kbi] using h.len,tm:=fun i p v hp hv=>?_,sub:=fun B o e=>.inl (h.sub B o e),new:=fun B o e=>?_,lt:=fun B o e=>?_,below:=h.below,objs:=fun i ob hob=>?_,inj:=fun i j hi hj e=>?_,owns:=fun t n k ht=>?_,ownsEx:=fun t t' B h1 h2=>h.ownsEx t t' B (hsp t B h1) (hsp t' B h2),ownsObj:=fun t B i h1 h2=>?_,glob:=fun i cs2 e=>(h.glob i cs2 e).mono (fun _ _ q=>.inl q) (fun _ _ _=>rfl) (fun _ _=>rfl),exs:=fun t k b xss hx=>?_,exsEx:=fun t t' B h1 h2=>h.exsEx t t' B h1 h2,fix:=fun i B hF=>⟨(h.fix i B hF).1,fun hs=>(by
  obtain ⟨x,hx⟩:=aL.1 hs;exact (h.fix i B hF).2 (by rw [(hkeep i x hx).2]; rfl))⟩,fixT:=fun t v n hF=>⟨(h.fixT t v n hF).1,fun n0 e=>(h.fixT t v n hF).2 n0 (hcut.T t _ e)⟩ },rfl⟩
 rotate_right
 ·obtain ⟨q1,q2,q3,q4,q5,q6⟩:=h.exs t k b xss hx;refine ⟨by show s.T t=_; rw [<- h.hT]; exact q1,q2,q3,q4,q5,q6.imp id ?_⟩;rintro ⟨B,cap,e,hc0,f1,f2,f3,f4,⟨us,u1,u2⟩,f6,f7,f8⟩;have hne:g.φ l≠B:=f7 l (by rw [hgl]; rfl);exact ⟨B,cap,e,hc0,f1,f2,f3,fun o ho=>ho.elim (f4 o) fun q=>hne q.symm,⟨us,u1.mono fun _ _ q=>⟨up _ _ q.1,q.2⟩,u2⟩,f6,fun i hi=>by
   obtain ⟨x,hx⟩:=aL.1 hi;exact f7 i (by rw [(hkeep i x hx).2]; rfl),fun t' ht'=>f8 t' (hsp t' B ht')⟩
 ·simp only [Kbi,aN,aD] at hp;obtain ⟨q,hq,rfl⟩:=hp;have hr:=h.tm i q v hq hv;unfold shm
  by_cases hlv:Hr (Fy ls s.H) s.T q=true
  ·rw [if_pos hlv];have h1:Rel g1 q v:=hr.live hcut hlv;exact h1.mono hle
  ·rw [if_neg hlv];split
   ·rename_i l';split
    ·rename_i e;subst e;exact href v hr.1
    ·trivial
   ·trivial
 ·rcases e with e|rfl
  ·exact h.new B o e
  ·exact .inr o1
 ·rcases e with e|rfl
  ·exact h.lt B o e
  ·exact o2
 ·obtain ⟨hi,hgi⟩:=hkeep i ob hob;obtain ⟨k1,k2,k3,k4⟩:=h.objs i ob hgi;have hne:g.φ i≠g.φ l:=fun e=>by
   have:=h.inj i l (by rw [hgi]; rfl) (by rw [hgl]; rfl) e;subst this; exact hnl hi
  refine ⟨k1,k2,fun o e=>e.elim (k3 o) (fun q=>hne q), ?_⟩;have hlv:=aK.1 hlive i hi;have hsi:s.H i=some ob:=by rw [<- h.hH]; exact hgi
  rw [hsi] at hlv;cases ob with
  | cells cs2=>
   obtain ⟨us,u1,u2,u3⟩:=k4;refine ⟨us,⟨u1.1,fun j x y hx hy=>?_⟩,u2,u3⟩;have h5:=u1.2 j x y hx hy;have h6:Pa (Fy ls s.H) s.T x=true:=aK.1 hlv x (aC hx);have h7:Yr g1 x y:=⟨h5.1.live hcut h6,h5.2⟩
   exact h7.mono hle
  | iter b pos=>exact k4
  | miter ks vs left cur=>exact Jmr.mono k4 (fun _ _ e=>.inl e) (fun _ _ _=>rfl) (fun _ _=>rfl) fun _ e=>e
  | mapo es k b tk=>cases hlv
  | map es=>
   obtain ⟨arr,clock,u1,u2⟩:=k4;exact ⟨arr,clock,u1,u2.mono fun _ _ q=>⟨up _ _ q.1,up _ _ q.2.1,q.2.2⟩⟩
 ·obtain ⟨x,hx⟩:=aL.1 hi;obtain ⟨y,hy⟩:=aL.1 hj;exact h.inj i j (by rw [(hkeep i x hx).2]; rfl) (by rw [(hkeep j y hy).2]; rfl) e
 ·rcases h.owns t n k (hcut.T t _ ht) with e|⟨B,off,cap,e1,e2,e3⟩
  ·exact .inl e
  ·refine .inr ⟨B,off,cap,e1,e2,fun hlt=>?_⟩;obtain ⟨q1,q2,q3,q4⟩:=e3 hlt;refine ⟨q1,q2,q3,fun hk o ho=>ho.elim (q4 hk o) fun e=>?_⟩;exact absurd e.symm (h.ownsObj t B l ⟨n,k,off,cap,hcut.T t _ ht,e1,hlt⟩ (by rw [hgl]; rfl))
 ·obtain ⟨x,hx⟩:=aL.1 h2;exact h.ownsObj t B i (hsp t B h1) (by rw [(hkeep i x hx).2]; rfl)
def Kkw{κ ν:Type}[Key κ][Enc ν](m:List (κ×ν)):PV:=.fmp (m.map fun e=>Enc.pv e.1) (m.map fun e=>Enc.pv e.2)
theorem Kge{κ ν:Type}[Key κ][Enc ν](m:List (κ×ν)):(m.map fun e=>(Enc.pv e.1:PV)).zip (m.map fun e=>(Enc.pv e.2:PV))=Zj m:=by
 unfold Zj;induction m with
 | nil=>rfl
 | cons e m ih=>simp [ih]
theorem Kja{c:Code}{Q':Exit->PSt->Prop}{κ ν:Type}[Key κ][Enc ν](l:Nat)(ls:List Nat)(m:List (κ×ν))(hl:s.H l=some (.map (Zj m)))(hn:ls.contains l=false)(hlive:(ls.all fun i=>match s.H i with|some ob=>Jfb (Fy ls s.H) s.T ob|none=>true)=true)(h:pwp P Gl c Q' (Kbi l (m.map fun e=>Enc.pv e.1) (m.map fun e=>Enc.pv e.2) ls s)):pwp P Gl c Q' s:=fun S0 w0 a w hi=>by
 obtain ⟨g,rfl,hg⟩:=hi;obtain ⟨g',h1,h2⟩:=hg.shareMap hl hn hlive;have e1:(Zj m).map (·.1)=m.map fun e=>(Enc.pv e.1:PV):=by simp [Zj]
 have e2:(Zj m).map (·.2)=m.map fun e=>(Enc.pv e.2:PV):=by simp [Zj]
 rw [e1,e2] at h1;exact h S0 w0 a _ ⟨g',h2,h1⟩
def Kjg(P:Program):List (Oper×Gd)->PSt->Option (List PV×List PV×PV×PV×Bool)
 | (o,.always)::_,s=>match o.op with
  | .lookup t x k ok=>match s.ev x,Jdu P t with
   | .fmp ks vs,some (d,z)=>if Hx d (s.ev k)=true then some (ks,vs,s.ev k,Kc2 P t z,ok) else none
   | _,_=>none
  | _=>none
 | _,_=>none
theorem Jle{κ ν:Type}[Key κ][Enc ν]{m:List (κ×ν)}{k:κ}(z:ν)(ok:Bool)(h:Kjg P Ls s=some (m.map fun e=>Enc.pv e.1,m.map fun e=>Enc.pv e.2,Enc.pv k,Enc.pv z,ok))(h2:Jy P Gl d (Ls.drop 1) (s.put (Uk Ls) (if ok=true then .tup [Enc.pv ((Ye m k).getD z),.bool (Ye m k).isSome] else Enc.pv ((Ye m k).getD z))) Q):Jy P Gl d Ls s Q:=by
 refine Cu (e:=.none) ?_ h2;unfold Kjg at h;split at h
 ·rename_i o rest s;split at h
  ·rename_i t x k' ok' hop;split at h
   ·rename_i ks vs d z' hx hm;split at h
    ·rename_i hd;simp only [aP,aM] at h;obtain ⟨rfl,rfl,hk,hz,rfl⟩:=h;simp only [Nb,hop,Vx,evO,Cg,aQ,if_false,ev1,hx,Pw,hm];rw [if_pos hd,hk,Kge,Jjg,hz];simp only [bH];cases Ye m k <;> cases ok' <;> rfl
    ·cases h
   ·cases h
  ·cases h
 ·cases h
theorem Jlp{α:Type}[Enc α]{L:List α}(h:(L.map cellsOf).isEmpty=true):L=[]:=by
 cases L with
 | nil=>rfl
 | cons x l=>simp at h
theorem Jbc{α:Type}[Enc α]{L:List α}(hL:L=[]){r:List α}(h:((Qi ([]:List α) L).bind fun m=>some m)=some r):(some []:Option (List α))=some r:=by
 subst hL
 simpa [Qi,Js] using h
end
end PM
