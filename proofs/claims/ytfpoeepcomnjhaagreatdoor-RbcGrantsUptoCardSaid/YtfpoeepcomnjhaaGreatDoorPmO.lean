import Derived.Test.YtfpoeepcomnjhaaGreatDoorPmQh
/-
 THE PURE MACHINE, O: calls that change a variable of the caller, and lists that nobody else holds (OCall). No project text. Nothing here is trusted.
-/
namespace PM
open Go Go.RowKit
abbrev XL:=Nat×Nat×List (List PV)
section
variable {P:Program} {Gl:GL} {S0:Bs} {w0:World} {s:PSt} {a:Act} {g:GG}
def owT(nx:Nat->Option (Value×XL))(T:Nat->Option (Nat×Nat))(t:Nat):Option (Nat×Nat):=match nx t with|some (_,x)=>some (x.2.2.length,0)|none=>T t
def owX(nx:Nat->Option (Value×XL))(ts:List Nat)(X:XT)(t:Nat):Option XL:=match nx t with|some (_,x)=>some x|none=>if t∈ts then none else X t
def Nc(nx:Nat->Option (Value×XL))(hd:Nat->Value)(t:Nat):Value:=match nx t with|some (v,_)=>v|none=>hd t
def owH(lc:Option Nat)(ob':Ue)(H:Nat->Option Ue):Nat->Option Ue:=match lc with|some l=>upd H l (some ob')|none=>H
theorem Kh.callWorld(h:Kh Gl S0 w0 s a g){lc:Option Nat}{ob':Ue}{ts:List Nat}{nx:Nat->Option (Value×XL)}{w':World}{S':Qa}(hts:∀ t,t∈ts->∃ x,s.X t=some x)(hw:Wr (fun b=>(∃ l,lc=some l/\b=g.φ l)\/∃ t,t∈ts/\HB (g.hd t) b) g.w w')(hS1:∀ B o,g.S B o->S' B o)(hS2:∀ B o,S' B o->B<w'.heap.size/\(g.S B o\/g.w.heap.size<=B\/∃ t,t∈ts/\HB (g.hd t) B))(hnx:∀ t hv x,nx t=some (hv,x)->t∈ts/\XIn S' w' x.1 x.2.1 x.2.2 hv/\(∃ x0,s.X t=some x0/\x0.2.2.length<=x.2.2.length/\(x.2.2.length=x0.2.2.length->hv=g.hd t))/\∀ b,HB hv b->HB (g.hd t) b\/g.w.heap.size<=b)(hdist:∀ t t' hv x hv' x' b,nx t=some (hv,x)->nx t'=some (hv',x')->HB hv b->HB hv' b->t=t')(hlc:∀ l,lc=some l->∃ ob,g.H l=some ob/\(∀ cs,ob=.cells cs->∃ cs',ob'=.cells cs'/\cs'.length=cs.length)/\(∀ o,¬ S' (g.φ l) o)/\∀ g',GLe g g'->g'.S=S'->g'.w=w'->(∀ t hv x,nx t=some (hv,x)->g'.hd t=hv/\g'.T t=some (x.2.2.length,0))->Jc7 g' (g.φ l) ob') :
  Kh Gl S0 w0 { s with H:=owH lc ob' s.H,T:=owT nx s.T,X:=owX nx ts s.X } a { g with S:=S',w:=w',hd:=Nc nx g.hd,T:=owT nx s.T,H:=owH lc ob' s.H } /\
   GLe g { g with S:=S',w:=w',hd:=Nc nx g.hd,T:=owT nx s.T,H:=owH lc ob' s.H }:=by
 have hsz:=hw.size;have tb:∀ t,t∈ts->∀ b,HB (g.hd t) b->b<g.w.heap.size/\(w0.heap.size<=b\/S0.E b)/\(∀ o,¬ g.S b o)/\(∀ l,(g.H l).isSome=true->g.φ l≠b)/\(∀ t',Wi g t' b->t'=t):=fun t ht b hb=>by
  obtain ⟨x,hx⟩:=hts t ht;exact XB.lt h ⟨by rw [hx]; rfl,hb⟩
 have xu:∀ t,t∈ts->∀ t' b,HB (g.hd t) b->XB s.X g t' b->t'=t:=fun t ht t' b hb hx'=>by
  obtain ⟨x,hx⟩:=hts t ht;exact h.exsEx t' t b hx' ⟨by rw [hx]; rfl,hb⟩
 have lcs:∀ l,lc=some l->(g.H l).isSome=true:=fun l e=>by
  obtain ⟨ob,h1,_⟩:=hlc l e;rw [h1]; rfl
 have hblk:∀ b,b<g.w.heap.size->(∀ l,lc=some l->b≠g.φ l)->(∀ t,t∈ts->¬ HB (g.hd t) b)->w'.heap[b]? = g.w.heap[b]?:=fun b h1 h2 h3=>
  hw.block b h1 fun e=>e.elim (fun ⟨l,q1,q2⟩=>h2 l q1 q2) fun ⟨t,q1,q2⟩=>h3 t q1 q2
 have hSb:∀ b o,g.S b o->w'.heap[b]? = g.w.heap[b]?:=fun b o ho=>hblk b (h.lt b o ho) (fun l e q=>by
  obtain ⟨ob,h1,_⟩:=hlc l e;exact (h.objs l ob h1).2.2.1 o (q▸ho)) fun t ht q=>(tb t ht b q).2.2.1 o ho
 have hHs:∀ l,(owH lc ob' s.H l).isSome=true->(g.H l).isSome=true:=fun l e=>by
  unfold owH at e;split at e
  ·rename_i l0
   by_cases q:l=l0
   ·exact q▸lcs l0 rfl
   ·rw [Kc _ _ _ _ q] at e; rw [h.hH]; exact e
  ·rw [h.hH]; exact e
 have x0T:∀ t x0,s.X t=some x0->g.T t=some (x0.2.2.length,0):=fun t x0 e=>(h.exs t x0.1 x0.2.1 x0.2.2 e).1;have hle:GLe g { g with S:=S',w:=w',hd:=Nc nx g.hd,T:=owT nx s.T,H:=owH lc ob' s.H }:=by
  refine ⟨hS1,fun B o ho=>Pf (hSb B o ho) o,fun B ho=>hSb B 0 (ho 0),fun l ob e=>⟨rfl, ?_⟩,fun t n k e=>?_⟩
  ·show ∃ ob'_1,owH lc ob' s.H l=some ob'_1/\_;unfold owH;split
   ·rename_i l0
    by_cases q:l=l0
    ·subst q;obtain ⟨ob0,h1,h2,_⟩:=hlc l rfl;rw [h1] at e; cases e;exact ⟨ob',Kr _ _ _,h2⟩
    ·exact ⟨ob,by rw [Kc _ _ _ _ q,<- h.hH]; exact e,fun cs e=>⟨cs,e,rfl⟩⟩
   ·exact ⟨ob,by rw [<- h.hH]; exact e,fun cs e=>⟨cs,e,rfl⟩⟩
  ·show ∃ n',owT nx s.T t=some (n',k)/\n<=n'/\(n'=n->Nc nx g.hd t=g.hd t);unfold owT Nc;cases hn:nx t with
   | none=>exact ⟨n,by rw [<- h.hT]; exact e,aJ _,fun _=>rfl⟩
   | some y=>
    obtain ⟨hv,x⟩:=y;obtain ⟨_,_,⟨x0,q1,q2,q3⟩,_⟩:=hnx t hv x hn;rw [x0T t x0 q1] at e; cases e;exact ⟨x.2.2.length,rfl,q2,fun e=>q3 e⟩
 have hSp:∀ t b,Wi { g with S:=S',w:=w',hd:=Nc nx g.hd,T:=owT nx s.T,H:=owH lc ob' s.H } t b->(∃ hv x,nx t=some (hv,x)/\HB hv b)\/(nx t=none/\Wi g t b):=by
  rintro t b ⟨n,k,off,cap,h1,h2,h3⟩
  change owT nx s.T t=some (n,k) at h1
  change Nc nx g.hd t=_ at h2
  unfold owT at h1;unfold Nc at h2;cases hn:nx t with
  | none=>simp only [hn] at h1 h2; exact .inr ⟨rfl,n,k,off,cap,by rw [h.hT]; exact h1,h2,h3⟩
  | some y=>
   obtain ⟨hv,x⟩:=y;simp only [hn] at h1 h2;exact .inl ⟨hv,x,rfl,off,n,cap,h2,h3.pos⟩
 have hXb:∀ t b,XB (owX nx ts s.X) { g with S:=S',w:=w',hd:=Nc nx g.hd,T:=owT nx s.T,H:=owH lc ob' s.H } t b->(∃ hv x,nx t=some (hv,x)/\HB hv b)\/(nx t=none/\t∉ts/\XB s.X g t b):=by
  rintro t b ⟨h1,off,n,cap,h2,h3⟩
  change Nc nx g.hd t=_ at h2
  unfold owX at h1;unfold Nc at h2;cases hn:nx t with
  | none=>
   simp only [hn] at h1 h2
   by_cases q:t∈ts
   ·rw [if_pos q] at h1; cases h1
   ·rw [if_neg q] at h1; exact .inr ⟨rfl,q,h1,off,n,cap,h2,h3⟩
  | some y=>
   obtain ⟨hv,x⟩:=y;simp only [hn] at h1 h2;exact .inl ⟨hv,x,rfl,off,n,cap,h2,h3⟩
 have spEx:∀ t1 t2 b,Wi { g with S:=S',w:=w',hd:=Nc nx g.hd,T:=owT nx s.T,H:=owH lc ob' s.H } t1 b->∀ hv x,nx t2=some (hv,x)->HB hv b->t1=t2:=fun t1 t2 b h1 hv x e1 e2=>by
  rcases hSp t1 b h1 with ⟨hv1,x1,q1,q2⟩|⟨q1,q2⟩
  ·exact hdist t1 t2 hv1 x1 hv x b q1 e1 q2 e2
  ·obtain ⟨r1,_,_,r4⟩:=hnx t2 hv x e1;rcases r4 b e2 with r|r
   ·exact (tb t2 r1 b r).2.2.2.2 t1 q2
   ·have:=q2.lt h; omega
 have newNe:∀ t hv x,nx t=some (hv,x)->∀ b,HB hv b->∀ l,(g.H l).isSome=true->g.φ l≠b:=fun t hv x e b hb l hl=>by
  obtain ⟨r1,_,_,r4⟩:=hnx t hv x e;rcases r4 b hb with r|r
  ·exact (tb t r1 b r).2.2.2.1 l hl
  ·obtain ⟨ob,hob⟩:=aL.1 hl;have:=(h.objs l ob hob).2.1;omega
 refine ⟨{ hH:=rfl,hT:=rfl,defers:=h.defers,len:=h.len,tm:=fun i p v hp hv=>(h.tm i p v hp hv).mono hle,sub:=fun B o ho=>hS1 _ _ (h.sub B o ho),new:=fun B o ho=>?_,lt:=fun B o ho=>(hS2 B o ho).1,below:=?_,objs:=fun l ob hob=>?_,inj:=fun l l' h1 h2 e=>h.inj l l' (hHs l h1) (hHs l' h2) e,owns:=fun t n k ht=>?_,ownsEx:=fun t1 t2 b h1 h2=>?_,ownsObj:=fun t b l h1 h2=>?_,glob:=fun i cs hi=>(h.glob i cs hi).mono hle.S hle.cell hle.blk,exs:=fun t k b xss hx=>?_,exsEx:=fun t1 t2 b h1 h2=>?_,fix:=fun l B hF=>⟨(h.fix l B hF).1,fun hs=>(h.fix l B hF).2 (hHs l hs)⟩,fixT:=fun t v n hF=>⟨(h.fixT t v n hF).1,fun n0 e=>?_⟩ },hle⟩
 ·rcases (hS2 B o ho).2 with e|e|⟨t,e1,e2⟩
  ·exact h.new B o e
  ·exact .inr (.inl (bG h.below.size e))
  ·exact .inr (tb t e1 B e2).2.1
 ·refine ⟨hw.os.trans h.below.os,hw.tape.trans h.below.tape,hw.output.trans h.below.output,bG h.below.size hsz,fun i hi he=>(hblk i (cJ hi h.below.size) (fun l e q=>?_) fun t ht q=>?_).trans (h.below.block i hi he),h.below.dr.trans hw.dr⟩
  ·obtain ⟨ob,h1,_⟩:=hlc l e;exact (h.objs l ob h1).1.elim (fun r=>by omega) fun r=>he (q▸r)
  ·exact (tb t ht i q).2.1.elim (fun r=>by omega) fun r=>he r
 ·change owH lc ob' s.H l=some ob at hob
  have hold:g.H l=some ob->(∀ l0,lc=some l0->l≠l0)->(w0.heap.size<=g.φ l\/S0.E (g.φ l))/\g.φ l<w'.heap.size/\(∀ o,¬ S' (g.φ l) o)/\Jc7 { g with S:=S',w:=w',hd:=Nc nx g.hd,T:=owT nx s.T,H:=owH lc ob' s.H } (g.φ l) ob:=fun e hne=>by
   have hs:(g.H l).isSome=true:=by rw [e]; rfl
   obtain ⟨k1,k2,k3,k4⟩:=h.objs l ob e;have hb:=hblk (g.φ l) k2 (fun l0 e0 q=>hne l0 e0 (h.inj l l0 hs (lcs l0 e0) q)) fun t ht q=>(tb t ht _ q).2.2.2.1 l hs rfl;refine ⟨k1,cJ k2 hsz,fun o ho=>?_,k4.mono hle (fun o=>Pf hb o) (fun o=>Pd hb o) fun x _ hc=>hb.trans hc⟩;rcases (hS2 _ o ho).2 with q|q|⟨t,q1,q2⟩
   ·exact k3 o q
   ·omega
   ·exact (tb t q1 _ q2).2.2.2.1 l hs rfl
  unfold owH at hob;split at hob
  ·rename_i l0
   by_cases q:l=l0
   ·subst q;rw [Kr] at hob; cases hob;obtain ⟨ob0,h1,_,h3,h4⟩:=hlc l rfl;obtain ⟨k1,k2,_,_⟩:=h.objs l ob0 h1;exact ⟨k1,cJ k2 hsz,h3,h4 _ hle rfl rfl fun t hv x e=>by simp [Nc,owT,e]⟩
   ·rw [Kc _ _ _ _ q] at hob;exact hold (by rw [h.hH]; exact hob) fun l1 e1=>by cases e1; exact q
  ·exact hold (by rw [h.hH]; exact hob) fun l1 e1=>by cases e1
 ·change owT nx s.T t=some (n,k) at ht
  unfold owT at ht;unfold Jka;cases hn:nx t with
  | some y=>
   obtain ⟨hv,x⟩:=y;simp only [hn] at ht; cases ht;obtain ⟨_,r2,_,_⟩:=hnx t hv x hn;have ehd:Nc nx g.hd t=hv:=by simp [Nc,hn]
   show (Tg (Nc nx g.hd t)/\_)\/∃ B off cap,Nc nx g.hd t=_/\_;rw [ehd];rcases r2.lies with ⟨q1,q2⟩|⟨B,cap,q1,q2,q3,q4,_,_,q7⟩
   ·exact .inl ⟨q1,by rw [q2]; rfl⟩
   ·exact .inr ⟨B,0,cap,q1,q3,fun _=>⟨fun q=>absurd rfl q,q4,fun j hj=>by simp at hj,fun q=>absurd rfl q⟩⟩
  | none=>
   simp only [hn] at ht;have ht':g.T t=some (n,k):=by rw [h.hT]; exact ht
   have ehd:Nc nx g.hd t=g.hd t:=by simp [Nc,hn]
   show (Tg (Nc nx g.hd t)/\_)\/∃ B off cap,Nc nx g.hd t=_/\_;rw [ehd];rcases h.owns t n k ht' with q|⟨B,off,cap,e1,e2,e3⟩
   ·exact .inl q
   ·refine .inr ⟨B,off,cap,e1,e2,fun hlt=>?_⟩;obtain ⟨f1,f2,f3,f4⟩:=e3 hlt;have hsp:Wi g t B:=⟨n,k,off,cap,ht',e1,hlt⟩
    by_cases hk:k=0
    ·subst hk;exact ⟨fun q=>absurd rfl q,cJ f2 hsz,fun j hj=>by simp at hj,fun q=>absurd rfl q⟩
    ·have hno:∀ t0,t0∈ts->¬ HB (g.hd t0) B:=fun t0 h0 hb=>by
      have e0:=(tb t0 h0 B hb).2.2.2.2 t hsp;subst e0;obtain ⟨x,hx⟩:=hts t h0;rw [x0T t x hx] at ht'; cases ht';exact hk rfl
     have hb:=hblk B f2 (fun l e q=>h.ownsObj t B l hsp (lcs l e) q.symm) hno;refine ⟨f1,cJ f2 hsz,fun j hj=>?_,fun _ o ho=>?_⟩
     ·show (w'.cell? _).isSome=true/\w'.frozen? _=false;rw [Pf hb,Pd hb]; exact f3 j hj
     ·rcases (hS2 B o ho).2 with q|q|⟨t0,q1,q2⟩
      ·exact f4 hk o q
      ·omega
      ·exact absurd q2 (hno t0 q1)
 ·rcases hSp t2 b h2 with ⟨hv,x,e1,e2⟩|⟨e1,e2⟩
  ·exact spEx t1 t2 b h1 hv x e1 e2
  ·rcases hSp t1 b h1 with ⟨hv,x,q1,q2⟩|⟨q1,q2⟩
   ·exact (spEx t2 t1 b h2 hv x q1 q2).symm
   ·exact h.ownsEx t1 t2 b q2 e2
 ·rcases hSp t b h1 with ⟨hv,x,q1,q2⟩|⟨q1,q2⟩
  ·exact newNe t hv x q1 b q2 l (hHs l h2)
  ·exact h.ownsObj t b l q2 (hHs l h2)
 ·change owX nx ts s.X t=some (k,b,xss) at hx
  unfold owX at hx;cases hn:nx t with
  | some y=>
   obtain ⟨hv,x⟩:=y;simp only [hn] at hx; cases hx;obtain ⟨r1,r2,_,r4⟩:=hnx t hv (k,b,xss) hn;have ehd:Nc nx g.hd t=hv:=by simp [Nc,hn]
   have eT:owT nx s.T t=some (xss.length,0):=by simp [owT,hn]
   refine ⟨eT,r2.k0,r2.ks,r2.l1,r2.l2, ?_⟩;show (Tg (Nc nx g.hd t)/\_)\/∃ B cap,Nc nx g.hd t=_/\_;rw [ehd];rcases r2.lies with q|⟨B,cap,q1,q2,q3,q4,q5,q6,q7⟩
   ·exact .inl q
   ·have hB:HB hv B:=⟨0,_,cap,q1,q2⟩
    refine .inr ⟨B,cap,q1,q2,q3, ?_,q4,q5,q6,q7,fun l hl=>newNe t hv _ hn B hB l (hHs l hl),fun t' hs=>spEx t' t B hs hv _ hn hB⟩;rcases r4 B hB with q|q
    ·exact (tb t r1 B q).2.1
    ·exact .inl (bG h.below.size q)
  | none=>
   simp only [hn] at hx
   by_cases q:t∈ts
   ·rw [if_pos q] at hx; cases hx
   ·rw [if_neg q] at hx;have ehd:Nc nx g.hd t=g.hd t:=by simp [Nc,hn]
    have eT:owT nx s.T t=g.T t:=by simp [owT,hn,h.hT]
    refine (h.exs t k b xss hx).mono hle eT ehd hsz fun B off n cap e1 e2 e3 e4 e5 e6=>?_;have hxb:XB s.X g t B:=⟨by rw [hx]; rfl,off,n,cap,e1⟩
    have hno:∀ t0,t0∈ts->¬ HB (g.hd t0) B:=fun t0 h0 hb=>q (by rw [xu t0 h0 t B hb hxb]; exact h0);have hb:=hblk B e3 (fun l e q=>e5 l (lcs l e) q.symm) hno;refine ⟨fun o=>Pf hb o,fun o=>Pd hb o,fun o ho=>?_,fun l hl=>e5 l (hHs l hl),fun t' hs=>?_⟩
    ·rcases (hS2 B o ho).2 with r|r|⟨t0,r1,r2⟩
     ·exact e4 o r
     ·omega
     ·exact hno t0 r1 r2
    ·rcases hSp t' B hs with ⟨hv,x,r1,r2⟩|⟨_,r2⟩
     ·obtain ⟨m1,_,_,m4⟩:=hnx t' hv x r1;rcases m4 B r2 with m|m
      ·exact absurd m (hno t' m1)
      ·omega
     ·exact e6 t' r2
 ·rcases hXb t1 b h1 with ⟨hv,x,e1,e2⟩|⟨e1,e2,e3⟩ <;> rcases hXb t2 b h2 with ⟨hv',x',q1,q2⟩|⟨q1,q2,q3⟩
  ·exact hdist t1 t2 hv x hv' x' b e1 q1 e2 q2
  ·obtain ⟨m1,_,_,m4⟩:=hnx t1 hv x e1;rcases m4 b e2 with m|m
   ·exact (xu t1 m1 t2 b m q3).symm
   ·have:=(XB.lt h q3).1; omega
  ·obtain ⟨m1,_,_,m4⟩:=hnx t2 hv' x' q1;rcases m4 b q2 with m|m
   ·exact xu t2 m1 t1 b m e3
   ·have:=(XB.lt h e3).1; omega
  ·exact h.exsEx t1 t2 b e3 q3
 ·change owT nx s.T t=some (n0,0) at e
  show n<=n0/\(n0=n->Nc nx g.hd t=v)/\∀ B,HB (Nc nx g.hd t) B->HB v B\/w0.heap.size<=B;unfold owT at e;unfold Nc;cases hn:nx t with
  | none=>simp only [hn] at e ⊢; exact (h.fixT t v n hF).2 n0 (by rw [h.hT]; exact e)
  | some y=>
   obtain ⟨hv,x⟩:=y;simp only [hn] at e ⊢; cases e;obtain ⟨_,_,⟨x0,q1,q2,q3⟩,q4⟩:=hnx t hv x hn;obtain ⟨k1,k2,k3⟩:=(h.fixT t v n hF).2 _ (x0T t x0 q1);refine ⟨by omega,fun e=>by rw [q3 oG]; exact k2 oG,fun B hB=>?_⟩;rcases q4 B hB with r|r
   ·exact k3 B r
   ·exact .inr (bG h.below.size r)
end
end PM
namespace PM
open Go Go.RowKit
def L0 : Nat:=1000000
def tX(xs:List XL)(t:Nat):Option XL:=match decide (T0<=t) with|true=>xs[t - T0]? | false=>none
def tT(xs:List XL)(t:Nat):Option (Nat×Nat):=(tX xs t).map fun x=>(x.2.2.length,0)
def tH(ob:Option Ue)(l:Nat):Option Ue:=match l == L0 with|true=>ob|false=>none
def gO(S:Qa)(w:World)(B:Nat)(hvs:List Value)(ob:Option Ue)(xs:List XL):GG:=⟨S,w,fun _=>B,fun t=>hvs.getD (t - T0) undef,tH ob,tT xs⟩
def gN(S:Qa)(w:World):GG:=⟨S,w,fun _=>0,fun _=>undef,fun _=>none,fun _=>none⟩
def Jkn(g:GG):PV->Value->Prop
 | .ref l o,v=>Kk g (.ref l o) v
 | .mp l,v=>Kk g (.mp l) v
 | .ex t k b N o n,v=>Kk g (.ex t k b N o n) v
 | p,v=>Jv g.S g.w p v
structure OIn (S:Qa) (w:World) (B:Nat) (hvs:List Value) (ob:Option Ue) (xs:List XL):Prop where
 len:hvs.length=xs.length
 obj:∀ o,ob=some o->B<w.heap.size/\(∀ o',¬ S B o')/\Jc7 (gO S w B hvs ob xs) B o
 lists:∀ (i:Nat) (x:XL) (hv:Value),xs[i]? = some x->hvs[i]? = some hv->XIn S w x.1 x.2.1 x.2.2 hv/\(ob.isSome=true->¬ HB hv B)
 dist:∀ (i j:Nat) (hv hv':Value) (b:Nat),hvs[i]? = some hv->hvs[j]? = some hv'->HB hv b->HB hv' b->i=j
structure Jtq (S:Qa) (w:World) (B:Nat) (hvs:List Value) (ob:Option Ue) (xs:List XL) (r:PV) (ob':Option Ue) (xs':List XL) (w':World) (v:Value) (S':Qa) (hvs':List Value):Prop where
 below:Wr (fun b=>(ob.isSome=true/\b=B)\/∃ (i:Nat) (hv:Value),hvs[i]? = some hv/\HB hv b) w w'
 sub:∀ b o,S b o->S' b o
 new:∀ b o,S' b o->b<w'.heap.size/\(S b o\/w.heap.size<=b\/∃ (i:Nat) (hv:Value),hvs[i]? = some hv/\HB hv b)
 inn:OIn S' w' B hvs' ob' xs'
 grow:∀ (i:Nat) (x x':XL) (hv hv':Value),xs[i]? = some x->xs'[i]? = some x'->hvs[i]? = some hv->hvs'[i]? = some hv'->x.2.2.length<=x'.2.2.length/\(x'.2.2.length=x.2.2.length->hv'=hv)/\∀ b,HB hv' b->HB hv b\/w.heap.size<=b
 res:Rel (gN S' w') r v
def Ii : Option Ue->Option (Option Nat)
 | none=>none
 | some (.cells cs)=>some (some cs.length)
 | some _=>some none
def Jta(P:Program)(Gl:GL)(f:FuncId)(ob:Option Ue)(xs:List XL)(args:List PV)(r:PV)(ob':Option Ue)(xs':List XL):Prop :=
 Jv6 P f/\(Ii ob=Ii ob'/\xs'.length<=xs.length)/\∀ (S:Qa) (w:World) (B:Nat) (hvs:List Value) (vs:Array Value),(∀ B o,S B o->B<w.heap.size)->(∀ i cs,Gl i=some cs->Gw S w cs i)->OIn S w B hvs ob xs->Kg (Jkn (gO S w B hvs ob xs)) args vs.toList ->
  Calls P f vs w fun e w'=>∃ v S' hvs',e=.returned v/\Jtq S w B hvs ob xs r ob' xs' w' v S' hvs'
def Jqb(s:PSt):List XL->Nat->List (Option XL×Option (Nat×Nat))
 | [],_=>[]
 | _::r,t=>(s.X t,s.T t)::Jqb s r (t+1)
def Jdw(xs:List XL):List (Option XL×Option (Nat×Nat)):=xs.map fun x=>(some x,some (x.2.2.length,0))
theorem Jr8{s:PSt}:∀ {xs:List XL} {t:Nat},Jqb s xs t=Jdw xs->∀ (i:Nat) (x:XL),xs[i]? = some x->s.X (t+i)=some x/\s.T (t+i)=some (x.2.2.length,0)
 | [],_,_,i,x,hx=>by simp at hx
 | y::r,t,h,i,x,hx=>by
  simp only [Jqb,Jdw,bT,eN,aM] at h;cases i with
  | zero=>simp at hx; subst hx; exact h.1
  | succ i=>
   have:=Jr8 (xs:=r) (t:=t+1) h.2 i x (by simpa using hx)
   rwa [show t+1+i=t+(i+1) by omega] at this
def Khb(ob:Option Ue)(xs:List XL)(args:List PV)(n:Nat):PSt:=⟨args++List.replicate (n - args.length) .any,tH ob,tT xs,tX xs,0⟩
def Jty(P:Program)(Gl:GL)(rs:List ResultVar)(r:PV)(ob':Option Ue)(xs':List XL)(s:PSt):Prop :=
 (s.H L0,Jqb s xs' T0)=(ob',Jdw xs')/\∃ vs pv,Sq P Gl s rs=some vs/\Jmb vs=some pv/\WkV (fun _=>none) (fun _=>none) pv r
def Kgn(P:Program)(Gl:GL)(rs:List ResultVar)(r:PV)(ob':Option Ue)(xs':List XL):Exit->PSt->Prop
 | .normal,s=>∃ s1,Wkr s s1/\Jty P Gl rs r ob' xs' s1
 | .ret,s=>∃ s1,Wkr s s1/\Jty P Gl rs r ob' xs' s1
 | _,_=>False
section
variable {P:Program} {Gl:GL} {S0:Bs} {w0:World} {s:PSt} {a:Act} {g:GG}
theorem Jkn.rel{p:PV}{v:Value}(h:Jkn g p v)(hf:Cn p=true):Rel g p v:=by
 cases p
 case ref=>exact Rel.of1 h
 case mp=>exact Rel.of1 h
 case ex=>exact Rel.of1 h
 all_goals exact Rel.ofData h hf
theorem Jun{xs:List XL}{t:Nat}{x:XL}(h:tX xs t=some x):∃ i,t=T0+i/\xs[i]? = some x:=by
 unfold tX at h;split at h
 ·rename_i hd;have:=of_decide_eq_true hd;exact ⟨t - T0,by omega,h⟩
 ·cases h
theorem Kkr{xs:List XL}(i:Nat):tX xs (T0+i)=xs[i]?:=by
 unfold tX;rw [show decide (T0<=T0+i)=true from decide_eq_true (Nat.le_add_right _ _)];simp only [cD]
theorem Jhf{xs:List XL}{t n k:Nat}(h:tT xs t=some (n,k)):∃ i x,t=T0+i/\xs[i]? = some x/\n=x.2.2.length/\k=0:=by
 unfold tT at h;obtain ⟨x,h1,h2⟩:=aD.1 h;obtain ⟨i,e1,e2⟩:=Jun h1;simp only [aM] at h2;exact ⟨i,x,e1,e2,h2.1.symm,h2.2.symm⟩
theorem Jyw{xs:List XL}{i:Nat}{x:XL}(h:xs[i]? = some x):tT xs (T0+i)=some (x.2.2.length,0):=by
 unfold tT; rw [Kkr,h]; rfl
theorem Jeq{ob:Option Ue}{l:Nat}{o:Ue}(h:tH ob l=some o):l=L0/\ob=some o:=by
 unfold tH at h;split at h
 ·rename_i hl; exact ⟨by simpa using hl,h⟩
 ·cases h
theorem Kgk{ob:Option Ue}:tH ob L0=ob:=by
 unfold tH; rw [show (L0 == L0)=true from beq_self_eq_true _]
theorem Jmo{S:Qa}{w:World}{B i:Nat}{hvs:List Value}{ob:Option Ue}{xs:List XL}{hv:Value}(h:hvs[i]? = some hv):(gO S w B hvs ob xs).hd (T0+i)=hv:=by
 show hvs.getD (T0+i - T0) undef=hv;rw [cD,bQ,h]; rfl
theorem OIn.both{S:Qa}{w:World}{B:Nat}{hvs:List Value}{ob:Option Ue}{xs:List XL}(h:OIn S w B hvs ob xs){i:Nat}{x:XL}(hx:xs[i]? = some x):∃ hv,hvs[i]? = some hv/\XIn S w x.1 x.2.1 x.2.2 hv/\(ob.isSome=true->¬ HB hv B):=by
 have hi:i<hvs.length:=by rw [h.len]; exact (aG.1 hx).1
 exact ⟨hvs[i],aB hi,h.lists i x _ hx (aB hi)⟩
theorem OIn.start{S:Qa}{w:World}{B:Nat}{hvs:List Value}{ob:Option Ue}{xs:List XL}{args:List PV}{vs:Array Value}(n:Nat)(hin:OIn S w B hvs ob xs)(hS:∀ B o,S B o->B<w.heap.size)(hglob:∀ i cs,Gl i=some cs->Gw S w cs i)(hargs:Kg (Jkn (gO S w B hvs ob xs)) args vs.toList)(hflat:args.all Cn=true) :
  Kh Gl ⟨S,fun l b=>ob.isSome=true/\l=L0/\b=B,fun t v n=>∃ (i:Nat) (x:XL),t=T0+i/\xs[i]? = some x/\hvs[i]? = some v/\n=x.2.2.length,[],[]⟩ w (Khb ob xs args n) { tmps:=vs++Array.replicate (n - vs.size) undef,defers:=[] } (gO S w B hvs ob xs):=by
 have hsz:args.length=vs.size:=by rw [hargs.1]; simp
 have hsp:∀ t b,Wi (gO S w B hvs ob xs) t b->∃ i x hv,t=T0+i/\xs[i]? = some x/\hvs[i]? = some hv/\HB hv b/\XIn S w x.1 x.2.1 x.2.2 hv/\(ob.isSome=true->¬ HB hv B):=by
  rintro t b ⟨n',k',off,cap,h1,h2,h3⟩;obtain ⟨i,x,rfl,e1,_,_⟩:=Jhf h1;obtain ⟨hv,f1,f2,f3⟩:=hin.both e1;rw [Jmo f1] at h2;exact ⟨i,x,hv,rfl,e1,f1,⟨off,n',cap,h2,h3.pos⟩,f2,f3⟩
 have hxb:∀ t b,XB (tX xs) (gO S w B hvs ob xs) t b->∃ i hv,t=T0+i/\hvs[i]? = some hv/\HB hv b:=by
  rintro t b ⟨h1,off,n',cap,h2,h3⟩;obtain ⟨x,hx⟩:=aL.1 h1;obtain ⟨i,rfl,e1⟩:=Jun hx;obtain ⟨hv,f1,_,_⟩:=hin.both e1;rw [Jmo f1] at h2;exact ⟨i,hv,rfl,f1,off,n',cap,h2,h3⟩
 refine { hH:=rfl,hT:=rfl,defers:=rfl,len:=by simp [Khb,hsz],tm:=fun i p v hp hv=>?_,sub:=fun _ _ h=>h,new:=fun _ _ h=>.inl h,lt:=hS,below:=Wr.refl _ _,objs:=fun l o e=>?_,inj:=fun l l' h1 h2 _=>?_,owns:=fun t n' k' e=>?_,ownsEx:=fun t t' b h1 h2=>?_,ownsObj:=fun t b l h1 h2=>?_,glob:=hglob,exs:=fun t k b xss e=>?_,exsEx:=fun t t' b h1 h2=>?_,fix:=fun l b hF=>?_,fixT:=fun t v n' hF=>?_ }
 ·simp only [Khb] at hp;simp only [bE,cB] at hv;rw [aU] at hp
  by_cases hi:i<args.length
  ·rw [if_pos hi] at hp;rw [cN oG] at hv;exact Jkn.rel (hargs.2 i p v hp (by simpa using hv)) (aK.1 hflat p (aC hp))
  ·rw [if_neg hi,cE] at hp;split at hp
   ·cases hp; trivial
   ·cases hp
 ·obtain ⟨rfl,e2⟩:=Jeq e;obtain ⟨f1,f2,f3⟩:=hin.obj o e2;exact ⟨.inr (.inl ⟨L0,by rw [e2]; rfl,rfl,rfl⟩),f1,f2,f3⟩
 ·obtain ⟨o,h1⟩:=aL.1 h1;obtain ⟨o',h2⟩:=aL.1 h2;exact (Jeq h1).1.trans (Jeq h2).1.symm
 ·obtain ⟨i,x,rfl,e1,rfl,rfl⟩:=Jhf e;obtain ⟨hv,f1,f2,_⟩:=hin.both e1;unfold Jka;rw [Jmo f1];rcases f2.lies with ⟨q1,q2⟩|⟨b,cap,q1,q2,q3,q4,_⟩
  ·exact .inl ⟨q1,by rw [q2]; rfl⟩
  ·exact .inr ⟨b,0,cap,q1,q3,fun _=>⟨fun q=>absurd rfl q,q4,fun j hj=>by simp at hj,fun q=>absurd rfl q⟩⟩
 ·obtain ⟨i,_,hv,rfl,_,e2,e3,_⟩:=hsp t b h1;obtain ⟨j,_,hv',rfl,_,f2,f3,_⟩:=hsp t' b h2;rw [hin.dist i j hv hv' b e2 f2 e3 f3]
 ·obtain ⟨_,_,hv,_,_,_,e3,_,e5⟩:=hsp t b h1;obtain ⟨o,h2⟩:=aL.1 h2;have:=(Jeq h2).2;intro q;exact e5 (by rw [this]; rfl) (by show HB hv B; rw [show B=b from q]; exact e3)
 ·obtain ⟨i,rfl,e1⟩:=Jun e;obtain ⟨hv,f1,f2,f3⟩:=hin.both e1;refine ⟨Jyw e1,f2.k0,f2.ks,f2.l1,f2.l2, ?_⟩;rw [Jmo f1];rcases f2.lies with q|⟨b',cap,q1,q2,q3,q4,q5,q6,q7⟩
  ·exact .inl q
  ·have hB:HB hv b':=⟨0,_,cap,q1,q2⟩
   refine .inr ⟨b',cap,q1,q2,q3,.inr (.inr ⟨T0+i,hv,_,⟨i,_,rfl,e1,f1,rfl⟩,hB⟩),q4,q5,q6,q7,fun l hl q=>?_,fun t' hs=>?_⟩
   ·obtain ⟨o,hl⟩:=aL.1 hl;have:=(Jeq hl).2;exact f3 (by rw [this]; rfl) (by rw [show B=b' from q]; exact hB)
   ·obtain ⟨j,_,hv',rfl,_,g2,g3,_⟩:=hsp t' b' hs;rw [hin.dist j i hv' hv b' g2 f1 g3 hB]
 ·obtain ⟨i,hv,rfl,e2,e3⟩:=hxb t b h1;obtain ⟨j,hv',rfl,f2,f3⟩:=hxb t' b h2;rw [hin.dist i j hv hv' b e2 f2 e3 f3]
 ·obtain ⟨_,rfl,rfl⟩:=hF;exact ⟨by unfold L0; exact aJ _,fun _=>rfl⟩
 ·obtain ⟨i,x,rfl,e1,e2,rfl⟩:=hF;refine ⟨Nat.le_add_right _ _,fun n0 e=>?_⟩;have e':tT xs (T0+i)=some (n0,0):=e;rw [Jyw e1] at e'; cases e';rw [Jmo e2];exact ⟨aJ _,fun _=>rfl,fun b hb=>.inl hb⟩
end
end PM
namespace PM
open Go Go.RowKit
section
variable {P:Program} {Gl:GL} {S0:Bs} {w0:World} {s:PSt} {a:Act} {g:GG}
theorem OIn.E{S:Qa}{B:Nat}{hvs:List Value}{ob:Option Ue}{xs:List XL}{b:Nat}(h:Bs.E ⟨S,fun l b=>ob.isSome=true/\l=L0/\b=B,fun t v n=>∃ (i:Nat) (x:XL),t=T0+i/\xs[i]? = some x/\hvs[i]? = some v/\n=x.2.2.length,[],[]⟩ b) :
  (ob.isSome=true/\b=B)\/∃ (i:Nat) (hv:Value),hvs[i]? = some hv/\HB hv b:=by
 rcases h with ⟨_,h1,_,h2⟩|⟨_,v,_,⟨i,_,_,_,h1,_⟩,h2⟩
 ·exact .inl ⟨h1,h2⟩
 ·exact .inr ⟨i,v,h1,h2⟩
theorem Jmw{ob ob':Option Ue}(h:Ii ob=Ii ob'):ob.isSome=ob'.isSome:=by
 cases ob with
 | none=>cases ob' with
  | none=>rfl
  | some o'=>cases o' <;> simp [Ii] at h
 | some o=>cases ob' with
  | none=>cases o <;> simp [Ii] at h
  | some o'=>rfl
theorem OIn.finish{S:Qa}{w:World}{B:Nat}{hvs:List Value}{ob ob':Option Ue}{xs xs':List XL}{r:PV}{v:Value}(hin:OIn S w B hvs ob xs)(hshape:Ii ob=Ii ob')(h:Kh Gl ⟨S,fun l b=>ob.isSome=true/\l=L0/\b=B,fun t v n=>∃ (i:Nat) (x:XL),t=T0+i/\xs[i]? = some x/\hvs[i]? = some v/\n=x.2.2.length,[],[]⟩ w s a g)(h1:s.H L0=ob')(h2:Jqb s xs' T0=Jdw xs')(hlive:∀ o,ob'=some o->Jfb (tH ob') (tT xs') o=true)(hr:Rel (gN g.S g.w) r v) :
  Jtq S w B hvs ob xs r ob' xs' g.w v g.S ((List.range xs'.length).map fun i=>g.hd (T0+i)):=by
 have hx:=Jr8 h2;have hso:=Jmw hshape;have hhv:∀ (i:Nat) (hv:Value),((List.range xs'.length).map fun i=>g.hd (T0+i))[i]? = some hv->∃ x,xs'[i]? = some x/\hv=g.hd (T0+i):=fun i hv e=>by
  rw [aN] at e;obtain ⟨j,e1,e2⟩:=aD.1 e;obtain ⟨hj,e3⟩:=aG.1 e1;rw [List.length_range] at hj;rw [List.getElem_range] at e3;subst e3;exact ⟨xs'[i],aB hj,e2.symm⟩
 have hgT:∀ (i:Nat) (x:XL),xs'[i]? = some x->g.T (T0+i)=some (x.2.2.length,0):=fun i x e=>by rw [h.hT]; exact (hx i x e).2
 have hex:∀ (i:Nat) (x:XL),xs'[i]? = some x->Jy6 g _ w.heap.size (T0+i) x.1 x.2.1 x.2.2:=fun i x e=>h.exs _ _ _ _ (hx i x e).1;have hXB:∀ (i:Nat) (x:XL) (b:Nat),xs'[i]? = some x->HB (g.hd (T0+i)) b->XB s.X g (T0+i) b:=fun i x b e hb=>⟨by rw [(hx i x e).1]; rfl,hb⟩
 have hφ:ob'.isSome=true->(g.H L0).isSome=true/\g.φ L0=B:=fun e=>by
  have:(g.H L0).isSome=true:=by rw [h.hH,h1]; exact e
  exact ⟨this,(h.fix L0 B ⟨by rw [hso]; exact e,rfl,rfl⟩).2 this⟩
 have hobj:∀ o,ob'=some o->B<g.w.heap.size/\(∀ o',¬ g.S B o')/\Jc7 g B o:=fun o e=>by
  obtain ⟨_,f2⟩:=hφ (by rw [e]; rfl);obtain ⟨_,k2,k3,k4⟩:=h.objs L0 o (by rw [h.hH,h1]; exact e);rw [f2] at k2 k3 k4;exact ⟨k2,k3,k4⟩
 refine ⟨h.below.mono fun b=>OIn.E,h.sub,fun b o ho=>⟨h.lt b o ho, ?_⟩,⟨by simp,fun o e=>?_,fun i x hv e1 e2=>?_,fun i j hv hv' b e1 e2 q1 q2=>?_⟩,fun i x x' hv hv' e1 e2 e3 e4=>?_,hr⟩
 ·rcases h.new b o ho with q|q|q
  ·exact .inl q
  ·exact .inr (.inl q)
  ·rcases OIn.E q with ⟨q1,rfl⟩|q
   ·rw [hso] at q1;obtain ⟨o1,q1⟩:=aL.1 q1;exact absurd ho ((hobj o1 q1).2.1 o)
   ·exact .inr (.inr q)
 ·obtain ⟨k2,k3,k4⟩:=hobj o e;obtain ⟨_,f2⟩:=hφ (by rw [e]; rfl);refine ⟨k2,k3, ?_⟩;have hcut:Cut g (tH ob') (tT xs'):=⟨fun t x q=>by
   obtain ⟨n,k⟩:=x;obtain ⟨i,x,rfl,e1,rfl,rfl⟩:=Jhf q;exact hgT i x e1,fun l cs q hl=>by
   obtain ⟨o1,hl⟩:=aL.1 hl;obtain ⟨rfl,_⟩:=Jeq hl;rw [h.hH,h1] at q;exact ⟨cs,by rw [Kgk]; exact q,rfl⟩⟩
  have hle:GLe { g with H:=tH ob',T:=tT xs' } (gO g.S g.w B ((List.range xs'.length).map fun i=>g.hd (T0+i)) ob' xs'):=by
   refine ⟨fun _ _ q=>q,fun _ _ _=>rfl,fun _ _=>rfl,fun l o1 q=>?_,fun t n k q=>?_⟩
   ·obtain ⟨rfl,_⟩:=Jeq q;exact ⟨f2.symm,o1,q,fun cs q=>⟨cs,q,rfl⟩⟩
   ·refine ⟨n,q,aJ _,fun _=>?_⟩;obtain ⟨i,x,rfl,e1,_,_⟩:=Jhf q;refine Jmo ?_;rw [aN,List.getElem?_range (aG.1 e1).1]; rfl
  have hl:=hlive o e;cases o with
  | cells cs=>
   obtain ⟨us,u1,u2,u3⟩:=k4;refine ⟨us,⟨u1.1,fun i p u hp hu=>?_⟩,u2,u3⟩;have h5:=u1.2 i p u hp hu;exact Yr.mono hle p u ⟨h5.1.live hcut (aK.1 hl p (aC hp)),h5.2⟩
  | map es=>exact k4
  | iter b pos=>exact k4
  | miter ks vs left cur=>exact k4
  | mapo es k b tk=>cases hl
 ·obtain ⟨_,_,rfl⟩:=hhv i hv e2;refine ⟨h.xin (hx i x e1).1,fun q hb=>?_⟩;obtain ⟨f1,f2⟩:=hφ q;exact (XB.lt h (hXB i x B e1 hb)).2.2.2.1 L0 f1 f2
 ·obtain ⟨x,f1,rfl⟩:=hhv i hv e1;obtain ⟨x',f2,rfl⟩:=hhv j hv' e2;have:=h.exsEx _ _ b (hXB i x b f1 q1) (hXB j x' b f2 q2);omega
 ·obtain ⟨_,_,rfl⟩:=hhv i hv' e4;obtain ⟨f1,f2,f3⟩:=(h.fixT (T0+i) hv x.2.2.length ⟨i,x,rfl,e1,e3,rfl⟩).2 _ (hgT i x' e2);exact ⟨f1,f2,f3⟩
theorem Jth{f:FuncId}{fn:Func}{c:Code}{args:List PV}{r:PV}{ob ob':Option Ue}{xs xs':List XL}{n:Nat}{rs:List ResultVar}(hf:P.funcs[f]? = some fn)(hname:(fn.name == "runtime.NumGoroutine")=false)(hb:fn.body=some c)(hn:fn.ntmps=n)(hrs:fn.results.toList=rs)(hflat:args.all Cn=true)(hshape:Ii ob=Ii ob')(hlen:xs'.length<=xs.length)(hlive:(ob'.all fun o=>Jfb (tH ob') (tT xs') o)=true)(h:pwp P Gl c (Kgn P Gl rs r ob' xs') (Khb ob xs args n)):Jta P Gl f ob xs args r ob' xs':=by
 refine ⟨⟨fn,hf,hname,by rw [hb]; rfl⟩,⟨hshape,hlen⟩,fun S w B hvs vs hS hglob hin hargs=>?_⟩;subst hn; subst hrs;refine calls_of_wp hf hb ?_;refine Zl (fun e a' w' hq=>?_) (h _ w _ w ⟨_,rfl,hin.start fn.ntmps hS hglob hargs hflat⟩);obtain ⟨s0,hq,hi⟩:=hq;have fin:(∃ s1,Wkr s0 s1/\Jty P Gl fn.results.toList r ob' xs' s1)->a'.defers=[]/\∃ v,(results fn a'.tmps).run P w'=.ok v w'/\∃ v_1 S' hvs',Ending.returned v=.returned v_1/\Jtq S w B hvs ob xs r ob' xs' w' v_1 S' hvs':=by
  rintro ⟨s',hwk,h0,ps,pv,h1,h2,h3⟩;obtain ⟨g,rfl,hg⟩:=hwk _ _ _ _ _ hi;simp only [aM] at h0;refine ⟨hg.defers, ?_⟩;obtain ⟨us,r1,r2⟩:=Pe hg _ _ h1;have hcut:Cut g (fun _=>none) (fun _=>none):=⟨fun t x hx=>(by cases hx),fun l cs _ e=>(by cases e)⟩
  have hrel:=(Jeh h2 r2).weak hcut h3;have hle0:GLe { g with H:=fun _=>none,T:=fun _=>none } (gN g.S g.w):=⟨fun _ _ q=>q,fun _ _ _=>rfl,fun _ _=>rfl,fun l ob q=>(by change none=some ob at q; cases q),fun t n k q=>(by change none=some (n,k) at q; cases q)⟩
  refine ⟨_, ?_,_,_,_,rfl,hin.finish hshape hg h0.1 h0.2 (fun o e=>by rw [e] at hlive ⊢; exact hlive) (hrel.mono hle0)⟩;rw [Fp,cF];simp only [Sem.run_bind,Sem.run_map,r1,Result.andThen_ok,Sem.run_pure]
 cases e with
 | normal=>exact fin hq
 | ret=>exact fin hq
 | exit id=>exact hq.elim
 | goto l=>exact hq.elim
 | panic ch=>exact hq.elim
 | outgrown=>exact hq.elim
end
end PM
namespace PM
open Go Go.RowKit
def Jcl : List Nat->Nat->Option Nat
 | [],_=>none
 | x::r,t=>match x == t with|true=>some 0|false=>(Jcl r t).map (·+1)
def Jlb : List Nat->Bool
 | []=>true
 | x::r=>(Jcl r x).isNone&&Jlb r
def Kk1(ts:List Nat):PV->Option PV
 | .ex t k b N o n=>(Jcl ts t).map fun i=>.ex (T0+i) k b N o n
 | p=>Cs p
def Kf3(ts:List Nat):List PV->Option (List PV)
 | []=>some []
 | p::r=>match Kk1 ts p,Kf3 ts r with
  | some q,some qs=>some (q::qs)
  | _,_=>none
def Jxg(ts:List Nat):Ue->Option Ue
 | .cells cs=>(Kf3 ts cs).map .cells
 | .map es=>some (.map es)
 | .iter b pos=>some (.iter b pos)
 | .miter _ _ _ _=>none
 | .mapo _ _ _ _=>none
def Jiy(lc:Option Nat)(ts:List Nat)(tn:Option (Nat×Nat×Nat)):PV->Option PV
 | .nil=>match tn with|some (t,k,b)=>(Jcl ts t).map fun i=>.ex (T0+i) k b 0 0 0|none=>some .nil
 | .ref l o=>match lc with|some l0=>(match l == l0 with|true=>some (.ref L0 o)|false=>none)|none=>none
 | .mp l=>match lc with|some l0=>(match l == l0 with|true=>some (.mp L0)|false=>none)|none=>none
 | .ex t k b N o n=>(Jcl ts t).map fun i=>.ex (T0+i) k b N o n
 | p=>Oi p
def Jx0(lc:Option Nat)(ts:List Nat)(tn:Option (Nat×Nat×Nat)):List PV->Option (List PV)
 | []=>some []
 | p::r=>match Jiy lc ts tn p,Jx0 lc ts tn r with
  | some q,some qs=>some (q::qs)
  | _,_=>none
def Kbk : PV->Bool
 | .ref _ _=>true
 | .mp _=>true
 | .ex _ _ _ _ _ _=>true
 | _=>false
def dcoX(a q:PV):PV:=match Kbk q with|true=>q|false=>Jwj a q
def Ke6 : List PV->List PV->List PV
 | a::as,q::qs=>dcoX a q::Ke6 as qs
 | _,qs=>qs
def Kje(a q:PV):PV:=match Kbk q with|true=>q|false=>Ju7 a q
def Jtg : List PV->List PV->List PV
 | a::as,q::qs=>Kje a q::Jtg as qs
 | _,qs=>qs
def Jss(a q:Ue):Ue:=match a,q with
 | .cells as,.cells qs=>.cells (Jtg as qs)
 | _,q=>q
def Jow(lc:Option Nat)(ts:List Nat)(ob:Option Ue)(s:PSt):Option (Option Ue):=match lc with
 | none=>some none
 | some l=>((s.H l).bind (Jxg ts)).map fun o=>some (match ob with|some a=>Jss a o|none=>o)
def Kg4(ts:List Nat):PV->PV
 | .ex t k b N o n=>match ts[t - T0]? with|some t'=>.ex t' k b N o n|none=>.any
 | p=>(Cs p).getD .any
def Kdq(ts:List Nat):Option Ue->Ue
 | some (.cells cs)=>.cells (cs.map (Kg4 ts))
 | some o=>o
 | none=>.cells []
def oX(ts:List Nat)(xs':List XL)(X:XT)(t:Nat):Option XL:=match Jcl ts t with|some i=>xs'[i]? | none=>X t
def oT(ts:List Nat)(xs':List XL)(T:Nat->Option (Nat×Nat))(t:Nat):Option (Nat×Nat):=match Jcl ts t with|some i=>(match xs'[i]? with|some x=>some (x.2.2.length,0)|none=>T t)|none=>T t
def Kao(lc:Option Nat)(ts:List Nat)(tn:Option (Nat×Nat×Nat)):List (Oper×Gd)->PSt->Option (FuncId×List PV)
 | (o,.always)::_,s=>match Vx o.op with
  | some (x,args)=>match s.ev x with
   | .fn f []=>(Jx0 lc ts tn (args.map s.ev)).map fun qs=>(f,qs)
   | _=>none
  | none=>none
 | _,_=>none
section
variable {P:Program} {Gl:GL} {S0:Bs} {w0:World} {s:PSt} {a:Act} {g:GG}
theorem Jb6 : ∀ {ts:List Nat} {t i:Nat},Jcl ts t=some i->ts[i]? = some t
 | [],_,_,h=>by cases h
 | x::r,t,i,h=>by
  simp only [Jcl] at h;split at h
  ·rename_i he; cases h; simpa using he
  ·obtain ⟨j,h1,rfl⟩:=aD.1 h
   simpa using Jb6 h1
theorem Jnk : ∀ {ts:List Nat},Jlb ts=true->∀ {t i:Nat},ts[i]? = some t->Jcl ts t=some i
 | [],_,_,_,h=>by simp at h
 | x::r,hn,t,i,h=>by
  simp only [Jlb,aI] at hn;simp only [Jcl];cases i with
  | zero=>simp at h; subst h; rw [show (x == x)=true from beq_self_eq_true _]
  | succ i=>
   have h1:=Jnk hn.2 (t:=t) (i:=i) (by simpa using h);have hne:(x == t)=false:=by
    cases he:(x == t) with
    | false=>rfl
    | true=>rw [show x=t by simpa using he,h1] at hn; simp at hn
   rw [hne,h1]; rfl
theorem Jr4 : ∀ {ts:List Nat} {t:Nat},Jcl ts t=none->t∉ts
 | [],_,_=>by simp
 | x::r,t,h=>by
  simp only [Jcl] at h;split at h
  ·cases h
  ·rename_i he;have h1:Jcl r t=none:=by simpa using h
   have:=Jr4 h1;simp only [bD,not_or];exact ⟨fun e=>by simp [e] at he,this⟩
structure Tie (g:GG) (lc:Option Nat) (ts:List Nat) (B:Nat) (hvs:List Value) (ob:Option Ue) (xs:List XL):Prop where
 nd:Jlb ts=true
 hl:∀ l,lc=some l->B=g.φ l/\ob.isSome=true
 ht:∀ (t i:Nat),ts[i]? = some t->∃ x,xs[i]? = some x/\g.T t=some (x.2.2.length,0)/\hvs[i]? = some (g.hd t)
theorem Tie.ex{lc:Option Nat}{ts:List Nat}{B:Nat}{hvs:List Value}{ob:Option Ue}{xs:List XL}(h:Tie g lc ts B hvs ob xs){t k b N o n i:Nat}{v:Value}(hi:Jcl ts t=some i)(hr:Kk g (.ex t k b N o n) v):Kk (gO g.S g.w B hvs ob xs) (.ex (T0+i) k b N o n) v:=by
 obtain ⟨x,h1,h2,h3⟩:=h.ht t i (Jb6 hi);simp only [Kk] at hr ⊢;obtain ⟨r0,N',r1,r2,r3⟩:=hr;rw [h2] at r1; cases r1;exact ⟨r0,_,Jyw h1,r2,fun e=>by rw [Jmo h3]; exact r3 e⟩
theorem Tie.cell{lc:Option Nat}{ts:List Nat}{B:Nat}{hvs:List Value}{ob:Option Ue}{xs:List XL}(h:Tie g lc ts B hvs ob xs){p q:PV}{v:Value}(hr:Yr g p v)(hc:Kk1 ts p=some q):Yr (gO g.S g.w B hvs ob xs) q v:=by
 refine ⟨?_,hr.2⟩;have key:∀ {p:PV},Kk g p v->Cs p=some q->Kk (gO g.S g.w B hvs ob xs) q v:=fun h1 h2=>by
  obtain ⟨e1,e2⟩:=Xv h1 h2;exact Kk.of_data e1 e2
 cases p
 case ex t k b N o n=>
  simp only [Kk1] at hc;obtain ⟨i,hi,rfl⟩:=aD.1 hc;exact h.ex hi hr.1
 all_goals exact key hr.1 hc
theorem Tie.cells{lc:Option Nat}{ts:List Nat}{B:Nat}{hvs:List Value}{ob:Option Ue}{xs:List XL}(h:Tie g lc ts B hvs ob xs):∀ {cs ds:List PV} {vs:List Value},Kg (Yr g) cs vs->Kf3 ts cs=some ds->Kg (Yr (gO g.S g.w B hvs ob xs)) ds vs
 | [],ds,vs,hr,hc=>by
  simp only [Kf3] at hc; cases hc;rw [hr.nil_left]; exact .nil
 | c::cs,ds,vs,hr,hc=>by
  simp only [Kf3] at hc;split at hc
  ·rename_i x y h1 h2;cases hc;obtain ⟨v,vs',rfl,hv,hvs⟩:=hr.cons_left;exact .cons (h.cell hv h1) (h.cells hvs h2)
  ·cases hc
theorem Jn0{g:GG}:∀ {as qs:List PV} {vs:List Value},Kg (Yr g) qs vs->Kg (Yr g) (Jtg as qs) vs
 | a::as,q::qs,vs,h=>by
  obtain ⟨v,vs',rfl,h1,h2⟩:=h.cons_left;refine .cons ?_ (Jn0 h2);unfold Kje;split
  ·exact h1
  ·unfold Ju7;refine ⟨?_,h1.2⟩;split
   ·split
    ·exact Jv.unfull h1.1
    ·exact Jv.ofNil _ _ (.inl rfl) h1.1
    ·exact h1.1
   ·split
    ·exact Jv.ofNil _ _ (.inr rfl) h1.1
    ·exact h1.1
   ·exact h1.1
 | [],_,_,h=>h
 | _::_,[],_,h=>h
theorem Tie.arg{lc:Option Nat}{ts:List Nat}{B:Nat}{hvs:List Value}{ob:Option Ue}{xs:List XL}(h:Tie g lc ts B hvs ob xs){tn:Option (Nat×Nat×Nat)}(hnil:∀ x,tn=some x->g.hd x.1=.slice none 0 0/\g.T x.1=some (0,0)){p q:PV}{v:Value}(hr:Rel g p v)(hc:Jiy lc ts tn p=some q):Jkn (gO g.S g.w B hvs ob xs) q v:=by
 have hsome:∀ l,lc=some l->((gO g.S g.w B hvs ob xs).H L0).isSome=true:=fun l e=>by
  show (tH ob L0).isSome=true;rw [Kgk]; exact (h.hl l e).2
 have key:∀ {p:PV},Rel g p v->Oi p=some q->Jkn (gO g.S g.w B hvs ob xs) q v:=fun {p} h1 h2=>by
  have hd:=Jf2 (h1.relA h2) h2;have:Kbk q=false:=by
   cases p <;> simp only [Oi,Cs] at h2
   case agg cs=>obtain ⟨_,_,rfl⟩:=aD.1 h2; rfl
   case lst o k b xss=>cases o <;> simp only at h2 <;> cases h2 <;> rfl
   case fn f caps=>split at h2 <;> cases h2; rfl
   all_goals (cases h2; try rfl)
  cases q <;> first|exact hd|cases this
 cases p
 case ref l o=>
  simp only [Jiy] at hc;split at hc
  ·rename_i l0;split at hc
   ·rename_i he;have he:l=l0:=by simpa using he
    subst he;cases hc;rw [Oh] at hr;simp only [Jkn,Kk];exact ⟨by show v=.pointer (some ⟨B,o,none⟩); rw [(h.hl l rfl).1]; exact hr.1,hsome l rfl⟩
   ·cases hc
  ·cases hc
 case mp l=>
  simp only [Jiy] at hc;split at hc
  ·rename_i l0;split at hc
   ·rename_i he;have he:l=l0:=by simpa using he
    subst he;cases hc;simp only [Rel,Ks,Kk] at hr;simp only [Jkn,Kk];exact ⟨by show v=.map (some B); rw [(h.hl l rfl).1]; exact hr.1,hsome l rfl⟩
   ·cases hc
  ·cases hc
 case ex t k b N o n=>
  simp only [Jiy] at hc;obtain ⟨i,hi,rfl⟩:=aD.1 hc;simp only [Rel,Ks] at hr;exact h.ex hi hr
 case tup vs=>simp [Jiy,Oi,Cs] at hc
 case nil=>
  have hv:v=.slice none 0 0:=by simpa [Rel,Ks,Kk,Jv] using hr
  simp only [Jiy] at hc;split at hc
  ·rename_i t k b;obtain ⟨i,hi,rfl⟩:=aD.1 hc;obtain ⟨n1,n2⟩:=hnil _ rfl;refine h.ex (b:=b) hi ?_;simp only [Kk];exact ⟨⟨none,0,hv,aJ _,fun q=>by omega⟩,0,n2,aJ _,fun _=>.inl ⟨by rw [n1]; exact hv,rfl,rfl,rfl⟩⟩
  ·cases hc; simp only [Jkn,Jv]; exact hv
 all_goals exact key hr hc
theorem Tie.args{lc:Option Nat}{ts:List Nat}{B:Nat}{hvs:List Value}{ob:Option Ue}{xs:List XL}(h:Tie g lc ts B hvs ob xs){tn:Option (Nat×Nat×Nat)}(hnil:∀ x,tn=some x->g.hd x.1=.slice none 0 0/\g.T x.1=some (0,0)):∀ {cs ds:List PV} {vs:List Value},Kg (Rel g) cs vs->Jx0 lc ts tn cs=some ds->Kg (Jkn (gO g.S g.w B hvs ob xs)) ds vs
 | [],ds,vs,hr,hc=>by
  simp only [Jx0] at hc; cases hc;rw [hr.nil_left]; exact .nil
 | c::cs,ds,vs,hr,hc=>by
  simp only [Jx0] at hc;split at hc
  ·rename_i x y h1 h2;cases hc;obtain ⟨v,vs',rfl,hv,hvs⟩:=hr.cons_left;exact .cons (h.arg hnil hv h1) (h.args hnil hvs h2)
  ·cases hc
theorem Jsx{g:GG}:∀ {as qs:List PV} {vs:List Value},Kg (Jkn g) qs vs->Kg (Jkn g) (Ke6 as qs) vs
 | a::as,q::qs,vs,h=>by
  obtain ⟨v,vs',rfl,h1,h2⟩:=h.cons_left;refine .cons ?_ (Jsx h2);unfold dcoX;split
  ·exact h1
  ·rename_i hl;have hq:Jv g.S g.w q v:=by cases q <;> first|exact h1|cases hl
   have hr:Jv g.S g.w (Jwj a q) v:=Jvy hq;have:Kbk (Jwj a q)=false:=by
    unfold Jwj;split
    ·split
     ·rfl
     ·exact hl
    ·unfold Ju7;split
     ·split <;> first|rfl|exact hl
     ·split <;> first|rfl|exact hl
     ·exact hl
   cases hd:Jwj a q <;> rw [hd] at hr this <;> first|exact hr|cases this
 | [],_,_,h=>h
 | _::_,[],_,h=>h
theorem Kg1{S':Qa}{w':World}{B:Nat}{hvs':List Value}{ob':Option Ue}{xs':List XL}{ts:List Nat}{g':GG}(hS:g'.S=S')(hw:g'.w=w')(ht:∀ (i t:Nat) (x:XL) (hv:Value),ts[i]? = some t->xs'[i]? = some x->hvs'[i]? = some hv->g'.hd t=hv/\g'.T t=some (x.2.2.length,0))(hlen:hvs'.length=xs'.length){q:PV}{v:Value}(h:Yr (gO S' w' B hvs' ob' xs') q v):Yr g' (Kg4 ts q) v:=by
 subst hS; subst hw;refine ⟨?_,h.2⟩;have key:∀ {q:PV},Kk (gO g'.S g'.w B hvs' ob' xs') q v->Kk g' ((Cs q).getD .any) v:=fun {q} h1=>by
  cases hd:Cs q with
  | none=>trivial
  | some q' =>
   obtain ⟨e1,e2⟩:=Xv h1 hd;exact Kk.of_data e1 e2
 cases q
 case ex t k b N o n=>
  simp only [Kg4];split
  ·rename_i t' he;have h1:=h.1;simp only [Kk] at h1 ⊢;obtain ⟨r0,N',r1,r2,r3⟩:=h1;have r1':tT xs' t=some (N',0):=r1;obtain ⟨i,x,rfl,e1,rfl,_⟩:=Jhf r1';rw [cD] at he;have hi:i<hvs'.length:=by rw [hlen]; exact (aG.1 e1).1
   obtain ⟨f1,f2⟩:=ht i t' x _ he e1 (aB hi);refine ⟨r0,_,f2,r2,fun e=>?_⟩;have:=r3 e;rw [Jmo (aB hi)] at this;rw [f1]; exact this
  ·trivial
 all_goals exact key h.1
end
end PM
namespace PM
open Go Go.RowKit
section
variable {P:Program} {Gl:GL} {S0:Bs} {w0:World} {s:PSt} {a:Act} {g:GG} {Ls:List (Oper×Gd)} {Q:PSt->Prop}
theorem Jlm{s:PSt}:∀ {ts:List Nat} {xs:List XL},ts.map (fun t=>(s.X t,s.T t))=Jdw xs->∀ (i t:Nat),ts[i]? = some t->∃ x,xs[i]? = some x/\s.X t=some x/\s.T t=some (x.2.2.length,0)
 | [],_,_,i,t,ht=>by simp at ht
 | y::r,[],h,_,_,_=>by simp [Jdw] at h
 | y::r,x::xs,h,i,t,ht=>by
  simp only [Jdw,bT,eN,aM] at h;cases i with
  | zero=>simp at ht; subst ht; exact ⟨x,rfl,h.1.1,h.1.2⟩
  | succ i=>
   obtain ⟨x',h1,h2⟩:=Jlm (ts:=r) (xs:=xs) h.2 i t (by simpa using ht);exact ⟨x',by simpa using h1,h2⟩
theorem Kh.oin(h:Kh Gl S0 w0 s a g){lc:Option Nat}{ts:List Nat}{ob:Option Ue}{xs:List XL}(hn:Jlb ts=true)(hob:Jow lc ts ob s=some ob)(hX:ts.map (fun t=>(s.X t,s.T t))=Jdw xs) :
  ∃ B,Tie g lc ts B (ts.map g.hd) ob xs/\OIn g.S g.w B (ts.map g.hd) ob xs/\(ob.isSome=true->∃ l obc,lc=some l/\B=g.φ l/\g.H l=some obc/\∀ cs,ob=some (.cells cs)->∃ cs',obc=.cells cs'/\cs'.length=cs.length):=by
 have hx:=Jlm hX;have hl0:ts.length=xs.length:=by simpa [Jdw] using congrArg List.length hX
 have hget:∀ (i:Nat) (hv:Value),(ts.map g.hd)[i]? = some hv->∃ t x,ts[i]? = some t/\hv=g.hd t/\xs[i]? = some x/\s.X t=some x/\s.T t=some (x.2.2.length,0):=fun i hv e=>by
  rw [aN] at e;obtain ⟨t,e1,e2⟩:=aD.1 e;obtain ⟨x,e3,e4⟩:=hx i t e1;exact ⟨t,x,e1,e2.symm,e3,e4⟩
 have hxb:∀ (t:Nat) (x:XL) (b:Nat),s.X t=some x->HB (g.hd t) b->XB s.X g t b:=fun t x b e hb=>⟨by rw [e]; rfl,hb⟩
 have htie:∀ B,(∀ l,lc=some l->B=g.φ l/\ob.isSome=true)->Tie g lc ts B (ts.map g.hd) ob xs:=fun B hB=>⟨hn,hB,fun t i e=>by
  obtain ⟨x,e1,e2,e3⟩:=hx i t e;exact ⟨x,e1,by rw [h.hT]; exact e3,by rw [aN,e]; rfl⟩⟩
 have hdist:∀ (i j:Nat) (hv hv':Value) (b:Nat),(ts.map g.hd)[i]? = some hv->(ts.map g.hd)[j]? = some hv'->HB hv b->HB hv' b->i=j:=fun i j hv hv' b e1 e2 q1 q2=>by
  obtain ⟨t,x,f1,rfl,_,f3,_⟩:=hget i hv e1;obtain ⟨t',x',f1',rfl,_,f3',_⟩:=hget j hv' e2;have e:=h.exsEx t t' b (hxb t x b f3 q1) (hxb t' x' b f3' q2);subst e;have r1:=Jnk hn f1;rw [Jnk hn f1'] at r1
  simpa using r1.symm
 have hxin:∀ (i:Nat) (x:XL) (hv:Value),xs[i]? = some x->(ts.map g.hd)[i]? = some hv->XIn g.S g.w x.1 x.2.1 x.2.2 hv/\∀ l,(g.H l).isSome=true->¬ HB hv (g.φ l):=fun i x hv e1 e2=>by
  obtain ⟨t,x',f1,rfl,f2,f3,_⟩:=hget i hv e2;rw [e1] at f2; cases f2;exact ⟨h.xin f3,fun l hl hb=>(XB.lt h (hxb t x _ f3 hb)).2.2.2.1 l hl rfl⟩
 cases lc with
 | none=>
  simp only [Jow] at hob;cases hob;exact ⟨0,htie 0 (fun l e=>by cases e),⟨by simpa using hl0,(fun o e=>by cases e),fun i x hv e1 e2=>⟨(hxin i x hv e1 e2).1,fun e=>by cases e⟩,hdist⟩,fun e=>by cases e⟩
 | some l=>
  simp only [Jow] at hob;obtain ⟨o,h1,h2⟩:=aD.1 hob;obtain ⟨obc,h3,h4⟩:=bF.1 h1;have hgl:g.H l=some obc:=by rw [h.hH]; exact h3
  have hs:(g.H l).isSome=true:=by rw [hgl]; rfl
  obtain ⟨k1,k2,k3,k4⟩:=h.objs l obc hgl;have hsome:ob.isSome=true:=by rw [<- h2]; rfl
  have tie:=htie (g.φ l) (fun l' e=>by cases e; exact ⟨rfl,hsome⟩);have hok:Jc7 (gO g.S g.w (g.φ l) (ts.map g.hd) ob xs) (g.φ l) o:=by
   cases obc with
   | cells cs=>
    simp only [Jxg] at h4;obtain ⟨ds,h5,rfl⟩:=aD.1 h4;obtain ⟨us,u1,u2,u3⟩:=k4;exact ⟨us,tie.cells u1 h5,u2,u3⟩
   | map es=>simp only [Jxg] at h4; cases h4; exact k4
   | iter b pos=>simp only [Jxg] at h4; cases h4; exact k4
   | miter ks vs left cur=>cases h4
   | mapo es k b tk=>cases h4
  have hshape:∀ cs,o=.cells cs->∃ cs',obc=.cells cs'/\cs'.length=cs.length:=fun cs e=>by
   subst e;cases obc with
   | cells cs' =>
    simp only [Jxg] at h4;obtain ⟨ds,h5,h6⟩:=aD.1 h4;cases h6;obtain ⟨us,u1,_⟩:=k4;exact ⟨cs',rfl,by rw [u1.1,(tie.cells u1 h5).1]⟩
   | map es=>simp only [Jxg] at h4; cases h4
   | iter b pos=>simp only [Jxg] at h4; cases h4
   | miter ks vs left cur=>cases h4
   | mapo es k b tk=>cases h4
  have hobE:∀ o',ob=some o'->Jc7 (gO g.S g.w (g.φ l) (ts.map g.hd) ob xs) (g.φ l) o'/\∀ cs,o'=.cells cs->∃ cs',obc=.cells cs'/\cs'.length=cs.length:=fun o' e=>by
   rw [e] at h2;simp only [aP] at h2;cases o' <;> cases o <;> simp only [Jss] at h2 <;> try (cases h2)
   ·rename_i as qs;obtain ⟨us,u1,u2,u3⟩:=hok;have e3:Jtg as qs=as:=by simpa using h2
    have u4:=Jn0 (as:=as) u1;rw [e3] at u4;refine ⟨⟨us,u4,u2,u3⟩,fun cs e=>?_⟩;cases e;obtain ⟨cs',e1,e2⟩:=hshape _ rfl;exact ⟨cs',e1,by rw [e2,u1.1]; exact u4.1.symm⟩
   all_goals exact ⟨hok,fun cs e=>by cases e⟩
  exact ⟨g.φ l,tie,⟨by simpa using hl0,fun o' e=>⟨k2,k3,(hobE o' e).1⟩,fun i x hv e1 e2=>⟨(hxin i x hv e1 e2).1,fun _=>(hxin i x hv e1 e2).2 l hs⟩,hdist⟩,fun _=>⟨l,obc,rfl,rfl,hgl,fun cs e=>(hobE _ e).2 cs rfl⟩⟩
end
end PM
namespace PM
open Go Go.RowKit
section
variable {P:Program} {Gl:GL} {S0:Bs} {w0:World} {s:PSt} {a:Act} {g:GG} {Ls:List (Oper×Gd)} {Q:PSt->Prop}
def oSt(lc:Option Nat)(ts:List Nat)(ob':Option Ue)(xs':List XL)(s:PSt):PSt:={ s with H:=owH lc (Kdq ts ob') s.H,T:=oT ts xs' s.T,X:=oX ts xs' s.X }
theorem Kh.oafter(h:Kh Gl S0 w0 s a g){lc:Option Nat}{ts:List Nat}{ob ob':Option Ue}{xs xs':List XL}{r:PV}{v:Value}{B:Nat}{w':World}{S':Qa}{hvs':List Value}(hlc:lc.isSome=ob.isSome)(hX:ts.map (fun t=>(s.X t,s.T t))=Jdw xs)(tie:Tie g lc ts B (ts.map g.hd) ob xs)(hobj:ob.isSome=true->∃ l obc,lc=some l/\B=g.φ l/\g.H l=some obc/\∀ cs,ob=some (.cells cs)->∃ cs',obc=.cells cs'/\cs'.length=cs.length)(hshape:Ii ob=Ii ob')(hoc:∀ obc l cs,lc=some l->g.H l=some obc->obc=.cells cs->∃ cs',ob=some (.cells cs'))(ha:Jtq g.S g.w B (ts.map g.hd) ob xs r ob' xs' w' v S' hvs') :
  ∃ g',g'.w=w'/\Kh Gl S0 w0 (oSt lc ts ob' xs' s) a g'/\GLe g g'/\Rel g' r v:=by
 have hx:=Jlm hX;have hso:=Jmw hshape
 let nx:Nat->Option (Value×XL):=fun t=>match Jcl ts t with
  | some i=>(match hvs'[i]?,xs'[i]? with|some hv,some x=>some (hv,x)|_,_=>none)
  | none=>none
 have hnx:∀ t hv x,nx t=some (hv,x)->∃ i,Jcl ts t=some i/\hvs'[i]? = some hv/\xs'[i]? = some x:=fun t hv x e=>by
  simp only [nx] at e;split at e
  ·rename_i i hi;split at e
   ·rename_i hv' x' e1 e2;cases e; exact ⟨i,hi,e1,e2⟩
   ·cases e
  ·cases e
 have hnx':∀ t i x,Jcl ts t=some i->xs'[i]? = some x->∃ hv,hvs'[i]? = some hv/\nx t=some (hv,x):=fun t i x e1 e2=>by
  have hi:i<hvs'.length:=by rw [ha.inn.len]; exact (aG.1 e2).1
  refine ⟨hvs'[i],aB hi, ?_⟩;simp only [nx,e1,e2,aB hi]
 have hnn:∀ t i,Jcl ts t=some i->xs'[i]? = none->nx t=none:=fun t i e1 e2=>by
  simp only [nx,e1,e2];split <;> first|rfl|(rename_i q; cases q)
 have hmem:∀ t i,Jcl ts t=some i->t∈ts:=fun t i e=>aC (Jb6 e);have eT:owT nx s.T=oT ts xs' s.T:=by
  funext t;unfold owT oT;cases hi:Jcl ts t with
  | none=>simp only [nx,hi]
  | some i=>
   cases hxi:xs'[i]? with
   | none=>simp only [hnn t i hi hxi,hxi]
   | some x=>obtain ⟨hv,_,e⟩:=hnx' t i x hi hxi; simp only [e,hxi]
 have eX:owX nx ts s.X=oX ts xs' s.X:=by
  funext t;unfold owX oX;cases hi:Jcl ts t with
  | none=>simp only [nx,hi]; rw [if_neg (Jr4 hi)]
  | some i=>
   cases hxi:xs'[i]? with
   | none=>simp only [hnn t i hi hxi,hxi]; rw [if_pos (hmem t i hi)]
   | some x=>obtain ⟨hv,_,e⟩:=hnx' t i x hi hxi; simp only [e,hxi]
 have hhv:∀ (i:Nat) (hv:Value) (b:Nat),(ts.map g.hd)[i]? = some hv->HB hv b->∃ t,t∈ts/\HB (g.hd t) b:=fun i hv b e hb=>by
  rw [aN] at e;obtain ⟨t,e1,e2⟩:=aD.1 e;exact ⟨t,aC e1,by rw [e2]; exact hb⟩
 have hB:ob.isSome=true->∃ l,lc=some l/\B=g.φ l:=fun e=>by
  obtain ⟨l,_,e1,e2,_⟩:=hobj e;exact ⟨l,e1,e2⟩
 have main:=h.callWorld (lc:=lc) (ob':=Kdq ts ob') (ts:=ts) (nx:=nx) (w':=w') (S':=S')
  (fun t ht=>by
   obtain ⟨i,hi⟩:=aS ht;obtain ⟨x,_,e,_⟩:=hx i t hi;exact ⟨x,e⟩)
  (ha.below.mono fun b hb=>by
   rcases hb with ⟨e1,e2⟩|⟨i,hv,e1,e2⟩
   ·obtain ⟨l,q1,q2⟩:=hB e1;exact .inl ⟨l,q1,e2.trans q2⟩
   ·exact .inr (hhv i hv b e1 e2))
  ha.sub
  (fun b o ho=>⟨(ha.new b o ho).1,(ha.new b o ho).2.imp id fun q=>q.imp id fun ⟨i,hv,e1,e2⟩=>hhv i hv b e1 e2⟩)
  (fun t hv x e=>by
   obtain ⟨i,e1,e2,e3⟩:=hnx t hv x e;obtain ⟨x0,f1,f2,_⟩:=hx i t (Jb6 e1);obtain ⟨k1,k2,k3⟩:=ha.grow i x0 x (g.hd t) hv f1 e3 (by rw [aN,Jb6 e1]; rfl) e2;exact ⟨hmem t i e1,(ha.inn.lists i x hv e3 e2).1,⟨x0,f2,k1,k2⟩,k3⟩)
  (fun t t' hv x hv' x' b e1 e2 q1 q2=>by
   obtain ⟨i,i1,i2,_⟩:=hnx t hv x e1;obtain ⟨j,j1,j2,_⟩:=hnx t' hv' x' e2;have:=ha.inn.dist i j hv hv' b i2 j2 q1 q2;subst this;have r1:=Jb6 i1;rw [Jb6 j1] at r1
   simpa using r1.symm)
  (fun l e=>by
   have hs:ob.isSome=true:=by rw [<- hlc,e]; rfl
   obtain ⟨l',obc,e1,e2,e3,e4⟩:=hobj hs;rw [e] at e1; cases e1;obtain ⟨o',ho'⟩:=aL.1 (hso▸hs);obtain ⟨m1,m2,m3⟩:=ha.inn.obj o' ho';rw [e2] at m2 m3;refine ⟨obc,e3,fun cs ec=>?_,m2,fun g' _ hS hw ht=>?_⟩
   ·obtain ⟨cs1,hcs1⟩:=hoc obc l cs e e3 ec;obtain ⟨cs2,q1,q2⟩:=e4 cs1 hcs1;rw [ec] at q1; cases q1;rw [ho',hcs1] at hshape;cases o' with
    | cells cs3=>
     simp only [Ii,aP] at hshape;exact ⟨_,by rw [ho']; rfl,by rw [aV,<- hshape,q2]⟩
    | map es=>simp [Ii] at hshape
    | iter b pos=>simp [Ii] at hshape
    | miter ks vs left cur=>simp [Ii] at hshape
    | mapo es k b tk=>simp [Ii] at hshape
   ·rw [ho'];have ht':∀ (i t:Nat) (x:XL) (hv:Value),ts[i]? = some t->xs'[i]? = some x->hvs'[i]? = some hv->g'.hd t=hv/\g'.T t=some (x.2.2.length,0):=fun i t x hv f1 f2 f3=>by
     obtain ⟨hv',q1,q2⟩:=hnx' t i x (Jnk tie.nd f1) f2;rw [f3] at q1; cases q1;exact ht t hv x q2
    cases o' with
    | cells cs=>
     obtain ⟨us,u1,u2,u3⟩:=m3;refine ⟨us,⟨by rw [aV]; exact u1.1,fun i p u hp hu=>?_⟩,by rw [hw]; exact u2,by rw [hw]; exact u3⟩;rw [aN] at hp;obtain ⟨q,hq,rfl⟩:=aD.1 hp;exact Kg1 hS hw ht' ha.inn.len (u1.2 i q u hq hu)
    | map es=>
     obtain ⟨arr,clock,u1,u2⟩:=m3;exact ⟨arr,clock,by rw [hw]; exact u1,by rw [hS,hw]; exact u2⟩
    | iter b pos=>
     have m3':w'.heap[g.φ l]? = some (.stringIter b pos):=m3;show g'.w.heap[g.φ l]? = _;rw [hw]; exact m3'
    | miter ks vs left cur=>
     show Jmr g'.S g'.w _ _ _ _ _;rw [hS,hw]; exact m3
    | mapo es k b tk=>
     obtain ⟨q0,arr,clock,u1,u2,u3⟩:=m3;have hes:es=[]:=by
      cases es with
      | nil=>rfl
      | cons e es' =>
       exfalso;have hsz:0<arr.size:=by rw [u2]; simp
       obtain ⟨_,_,n,hT,_⟩:=u3 0 e arr[0] rfl sG;obtain ⟨_,_,_,_,_,hk⟩:=Jhf hT;exact q0 hk
     subst hes;exact ⟨q0,arr,clock,by rw [hw]; exact u1,u2,fun i e m he _=>by simp at he⟩)
 rw [eT,eX] at main;have hle0:GLe (gN S' w') { g with S:=S',w:=w',hd:=Nc nx g.hd,T:=oT ts xs' s.T,H:=owH lc (Kdq ts ob') s.H }:=⟨fun _ _ q=>q,fun _ _ _=>rfl,fun _ _=>rfl,fun l o q=>(by change none=some o at q; cases q),fun t n k q=>(by change none=some (n,k) at q; cases q)⟩
 exact ⟨_,rfl,main.1,main.2,ha.res.mono hle0⟩
end
end PM
namespace PM
open Go Go.RowKit
section
variable {P:Program} {Gl:GL} {S0:Bs} {w0:World} {s:PSt} {a:Act} {g:GG} {Ls:List (Oper×Gd)} {Q:PSt->Prop}
theorem Jxl{lc:Option Nat}{ts:List Nat}{ob:Option Ue}(hob:Jow lc ts ob s=some ob)(hH:g.H=s.H):lc.isSome=ob.isSome/\∀ obc l cs,lc=some l->g.H l=some obc->obc=.cells cs->∃ cs',ob=some (.cells cs'):=by
 cases lc with
 | none=>simp only [Jow] at hob; cases hob; exact ⟨rfl,fun _ _ _ e=>by cases e⟩
 | some l=>
  simp only [Jow] at hob;obtain ⟨o,h1,h2⟩:=aD.1 hob;refine ⟨by rw [<- h2]; rfl,fun obc l' cs e1 e2 e3=>?_⟩;cases e1;rw [hH] at e2;rw [e2,e3,aA,Jxg] at h1;obtain ⟨ds,_,rfl⟩:=aD.1 h1;cases ob with
  | none=>simp at h2
  | some a=>
   cases a with
   | cells as=>exact ⟨as,rfl⟩
   | map es=>simp [Jss] at h2
   | iter b pos=>simp [Jss] at h2
   | miter ks vs left cur=>simp [Jss] at h2
   | mapo es k b tk=>simp [Jss] at h2
def bornL : List (Nat×Nat×Nat×Nat×Nat)->PSt->PSt
 | [],s=>s
 | (l,off,t,k,b)::r,s=>bornL r (match s.H l with|some (.cells cs)=>Kg5 s l off t k b cs|_=>s)
def Juc : List (Nat×Nat×Nat×Nat×Nat)->PSt->Bool
 | [],_=>true
 | (l,off,t,k,b)::r,s=>match s.H l with
  | some (.cells cs)=>(match cs[off]? with|some .nil=>(s.T t).isNone&&decide (t<1000000000)&&(k != 0)&&Juc r (Kg5 s l off t k b cs)|_=>false)
  | _=>false
def bornN(tn:Option (Nat×Nat×Nat))(s:PSt):PSt:=match tn with
 | some (t,k,b)=>{ s with T:=upd s.T t (some (0,0)),X:=upd s.X t (some (k,b,[])) }
 | none=>s
def Jve(tn:Option (Nat×Nat×Nat))(s:PSt):Bool:=match tn with
 | some (t,k,_)=>(s.T t).isNone&&decide (t<1000000000)&&(k != 0)
 | none=>true
theorem Kh.bornH(h:Kh Gl S0 w0 s a g){l off t k b:Nat}{cs:List PV}(hl:s.H l=some (.cells cs))(hs:cs[off]? = some .nil)(hT:s.T t=none)(ht:t<1000000000)(hk:k≠0) :
  ∃ g',Kh Gl S0 w0 (Kg5 s l off t k b cs) a g'/\GLe g g'/\g'.w=g.w:=by
 have hgl:g.H l=some (.cells cs):=by rw [h.hH]; exact hl
 obtain ⟨_,_,_,vs,v1,_,_⟩:=h.objs l (.cells cs) hgl;obtain ⟨v,hv,hr⟩:=v1.right hs;obtain ⟨g1,h1,h2,h3,_,h4⟩:=h.exBorn (t:=t) (k:=k) (b:=b) (p:=.nil) (v:=v) (Rel.of1 hr.1) (.inl rfl) hT ht hk;have hv0:v=.slice none 0 0:=by simpa [Kk,Jv] using hr.1
 obtain ⟨g2,k1,k2,k3,_⟩:=h1.recells (l:=l) (off:=off) (cs:=cs) (p:=.ex t k b 0 0 0) hl (fun q u hq hu=>by
  rw [hs] at hq; cases hq;have hu0:u=.slice none 0 0:=by simpa [Yr,Kk,Jv] using hu.1
  rw [hv0] at h4;rw [hu0];exact ⟨h4,rfl⟩)
 exact ⟨g2,k1,h2.trans k2,k3.trans h3⟩
theorem Kh.bornL : ∀ (lb:List (Nat×Nat×Nat×Nat×Nat)) {s:PSt} {g:GG},Kh Gl S0 w0 s a g->Juc lb s=true->∃ g',Kh Gl S0 w0 (PM.bornL lb s) a g'/\GLe g g'/\g'.w=g.w
 | [],s,g,h,_=>⟨g,h,GLe.refl g,rfl⟩
 | (l,off,t,k,b)::r,s,g,h,hb=>by
  simp only [Juc] at hb;simp only [PM.bornL];split at hb
  ·rename_i cs hl;split at hb
   ·rename_i hs;simp only [aI,decide_eq_true_eq] at hb;obtain ⟨⟨⟨b1,b2⟩,b3⟩,b4⟩:=hb;obtain ⟨g1,e1,e2,e3⟩:=h.bornH (k:=k) (b:=b) hl hs (by simpa using b1) b2 (by simpa using b3);obtain ⟨g2,f1,f2,f3⟩:=Kh.bornL r e1 b4;exact ⟨g2,f1,e2.trans f2,f3.trans e3⟩
   ·cases hb
  ·cases hb
theorem Kh.bornN(h:Kh Gl S0 w0 s a g)(tn:Option (Nat×Nat×Nat))(hb:Jve tn s=true):∃ g',Kh Gl S0 w0 (PM.bornN tn s) a g'/\GLe g g'/\g'.w=g.w/\∀ x,tn=some x->g'.hd x.1=.slice none 0 0/\g'.T x.1=some (0,0):=by
 cases tn with
 | none=>exact ⟨g,h,GLe.refl g,rfl,fun x e=>by cases e⟩
 | some x=>
  obtain ⟨t,k,b⟩:=x;simp only [Jve,aI,decide_eq_true_eq] at hb;obtain ⟨⟨b1,b2⟩,b3⟩:=hb;have hgT:g.T t=none:=by rw [h.hT]; simpa using b1
  obtain ⟨h1,h2⟩:=h.exHead (t:=t) (k:=k) (b:=b) (xss:=[]) (v:=.slice none 0 0) (fun n0 k0 e=>by rw [hgT] at e; cases e) (fun _=>b2) (fun q=>absurd hgT q) (by simpa using b3) sG sG sG (.inl ⟨.inl rfl,rfl⟩);refine ⟨_,h1,h2,rfl,fun x e=>?_⟩;cases e;exact ⟨by simp,Kr _ _ _⟩
theorem Jp6 : ∀ (lb:List (Nat×Nat×Nat×Nat×Nat)) (s:PSt),(bornL lb s).tm=s.tm/\(bornL lb s).m=s.m
 | [],s=>⟨rfl,rfl⟩
 | (l,off,t,k,b)::r,s=>by
  simp only [bornL];split
  ·exact Jp6 r _
  ·exact Jp6 r _
def Jkz(lb:List (Nat×Nat×Nat×Nat×Nat))(tn:Option (Nat×Nat×Nat))(s:PSt):PSt:=bornN tn (bornL lb s)
theorem Kia(lb:List (Nat×Nat×Nat×Nat×Nat))(tn:Option (Nat×Nat×Nat))(s:PSt):(Jkz lb tn s).tm=s.tm/\(Jkz lb tn s).m=s.m:=by
 unfold Jkz bornN;cases tn <;> exact Jp6 lb s
theorem Kbc{f:FuncId}{as:List PV}{ob ob':Option Ue}{xs xs':List XL}{r:PV}(lc:Option Nat)(ts:List Nat)(lb:List (Nat×Nat×Nat×Nat×Nat))(tn:Option (Nat×Nat×Nat))(hc:Jta P Gl f ob xs as r ob' xs')(hb1:(Juc lb s&&Jve tn (bornL lb s))=true)(h0:(Kao lc ts tn Ls (Jkz lb tn s)).map (fun x=>(x.1,Ke6 as x.2))=some (f,as))(hob:Jow lc ts ob (Jkz lb tn s)=some ob)(hX:ts.map (fun t=>((Jkz lb tn s).X t,(Jkz lb tn s).T t))=Jdw xs)(hn:Jlb ts=true)(h2:Jy P Gl false (Ls.drop 1) ((oSt lc ts ob' xs' (Jkz lb tn s)).put (Uk Ls) r) Q):Jy P Gl false Ls s Q:=by
 obtain ⟨y0,h,hy0⟩:=aD.1 h0;clear h0;obtain ⟨f0,qs⟩:=y0;simp only [aM] at hy0;obtain ⟨rfl,hdc⟩:=hy0;obtain ⟨hb1,hb2⟩:=Bool.and_eq_true_iff.1 hb1;unfold Kao at h;split at h
 ·rename_i s0 o rest;split at h
  ·rename_i x args hco;split at h
   ·rename_i f' e1;obtain ⟨qs',e3,h'⟩:=aD.1 h;simp only [aM] at h';obtain ⟨rfl,rfl⟩:=h';obtain ⟨c,hop,hcal,hargs⟩:=Zg hco;obtain ⟨⟨fn,hfn1,hfn2,hfn3⟩,⟨hshape,hlen⟩,hcall⟩:=hc;have hsn:Jap s (oSt lc ts ob' xs' (Jkz lb tn s))=oSt lc ts ob' xs' (Jkz lb tn s):=by
     obtain ⟨t1,t2⟩:=Kia lb tn s;simp only [Jap,oSt,t1,t2]
    refine Jay (n:=oSt lc ts ob' xs' (Jkz lb tn s)) (v:=r) (by rw [hop]; rfl) ?_ (by rw [hsn]; exact h2);intro S0 w0 a g0 K Q' hg0 hK;rw [hsn] at hK;obtain ⟨g1,i1,i2,i3⟩:=Kh.bornL lb hg0 hb1;obtain ⟨g,hg,j2,j3,hnil⟩:=i1.bornN tn hb2;have hle:=i2.trans j2;have hw0:g.w=g0.w:=j3.trans i3
    change Kh Gl S0 w0 (Jkz lb tn s) a g at hg
    rw [<- hw0];have hx:=hg.ev x;rw [e1] at hx;simp only [Rel,Ks,Kk] at hx;obtain ⟨arr,hfv,hcaps⟩:=hx;have harr:arr=#[]:=cM.1 (by rw [hcaps.nil_left]);subst harr;have hall:Kg (Rel g) (args.map (Jkz lb tn s).ev) (args.map a.eval):=⟨by simp,fun i p v hp hv=>by
     rw [aN] at hp hv;cases hi:args[i]? with
     | none=>rw [hi] at hp; cases hp
     | some y=>rw [hi] at hp hv; cases hp; cases hv; exact hg.ev y⟩
    obtain ⟨B,tie,hin,hobj⟩:=hg.oin hn hob hX;obtain ⟨q1,q2⟩:=Jxl hob hg.hH;have hD:=Jsx (as:=as) (tie.args hnil hall e3);rw [hdc] at hD;have hrun:(execOp a.eval o).run P g.w=.ok (.enter f' (args.map a.eval).toArray) g.w:=by
     have hname:fn.name ≠ "runtime.NumGoroutine" := by simpa using hfn2
     have hbody:fn.body≠none:=fun e=>by rw [e] at hfn3; cases hfn3
     have hca:c.args.map a.eval++#[]=(args.map a.eval).toArray:=cM.1 (by simp [hargs]);simp [execOp,hop,resolve,hcal,hfv,Deferred.ofValue,invoke,callFunc,run_program,hfn1,hname,hbody]
     simpa using hca
    unfold Oper.wp;rw [hrun];refine (hcall g.S g.w B (ts.map g.hd) _ hg.lt hg.glob hin (by simpa using hD)).mono fun e w' he=>?_;obtain ⟨v,S',hvs',rfl,ha⟩:=he;obtain ⟨g',rfl,k1,k2,k3⟩:=hg.oafter q1 hX tie hobj hshape q2 ha;exact hK v g' k1 (hle.trans k2) k3
   ·cases h
  ·cases h
 ·cases h
theorem Kmc{rs:List ResultVar}{r:PV}{ob':Option Ue}{xs':List XL}(h1:(s.H L0,Jqb s xs' T0)=(ob',Jdw xs'))(h:(Jie P Gl rs s).map (fun v=>(Jda v,Fk r v))=some (true,r))(hl:Hr (fun _=>none) (fun _=>none) r=true):Jty P Gl rs r ob' xs' s:=by
 obtain ⟨pv,h3,h2⟩:=aD.1 h;obtain ⟨vs,h4,h5⟩:=bF.1 h3;simp only [aM] at h2;refine ⟨h1,vs,pv,h4,h5, ?_⟩;have:=Jck (p:=r) (q:=pv) (H:=fun _=>none) (T:=fun _=>none) h2.1 (by rw [h2.2]; exact hl)
 rwa [h2.2] at this
theorem Kee{s1:PSt}{rs:List ResultVar}{r:PV}{ob':Option Ue}{xs':List XL}(hw:Wkr s1 s)(h1:(s.H L0,Jqb s xs' T0)=(ob',Jdw xs'))(h:(Jie P Gl rs s).map (fun v=>(Jda v,Fk r v))=some (true,r))(hl:Hr (fun _=>none) (fun _=>none) r=true):Kgn P Gl rs r ob' xs' .ret s1:=⟨s,hw,Kmc h1 h hl⟩
end
end PM
