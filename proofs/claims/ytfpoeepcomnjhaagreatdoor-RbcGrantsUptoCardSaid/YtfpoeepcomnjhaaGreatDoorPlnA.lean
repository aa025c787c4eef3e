/-
 Plain laws, joined: WalkA WalkB WalkC WalkD WalkE WalkG WalkH WalkI WalkJ WalkK LayA LayB LayC LayD LayE BodyB BodyC BodyD ClmA LnkA SrtA SrtB LnkB LnkC AutA AutB AutC AutD AutE AutF OverA RutA RutB OverC FlankA FlankB CompI FlankC RefB FlankE AutG RbcA RbcC RbcD RbcE RbcF RbcG RbcH RbcM RbcI RbcJ.
-/
import Derived.Test.YtfpoeepcomnjhaaGreatDoorPlA
import Derived.Test.YtfpoeepcomnjhaaGreatDoorDen
namespace PM
open Go Go.RowKit
def Pi(a0 a1 a2:Int):Int×Bool :=
 match Qh.find? (fun x=>decide (x.kind_=a0)&&decide (x.in_=a1)&&decide (x.out_=a2)) with
 | some x=>(x.need_,true)
 | none=>(0,false)
def Jqq(a0 a1:Int):List Int :=
 if a0=1/\a1=0 then [1] else if a0=1/\a1=1 then [0] else
 if a0=2/\a1=0 then [1,2] else if a0=2/\a1=1 then [0] else if a0=2/\a1=2 then [0] else
 if a0=3/\a1=0 then [1] else if a0=3/\a1=1 then [0] else if a0=3/\a1=2 then [3] else if a0=3/\a1=3 then [2] else []
def Jc9(a0:Int):Int:=if a0=1 then 2 else if a0=2 then 3 else if a0=3 then 4 else 0
theorem kinds(a:Int):a=1\/a=2\/a=3\/(¬ a=1/\¬ a=2/\¬ a=3/\¬ 1=a/\¬ 2=a/\¬ 3=a):=by omega
theorem Jiz(a:Int):a=0\/a=1\/a=2\/a=3\/(¬ a=0/\¬ a=1/\¬ a=2/\¬ a=3/\¬ 0=a/\¬ 1=a/\¬ 2=a/\¬ 3=a):=by omega
set_option maxRecDepth 10000
theorem Jg5(a0 a1 a2:Int):Om a0 a1 a2=some (Pi a0 a1 a2):=by
 unfold Om Pi;rw [Jd6 (fun x=>decide (x.kind_=a0)&&decide (x.in_=a1)&&decide (x.out_=a2)) (fun x=>.inr (x.need_,true)) (.inl ()) Qh (by decide)]
 ·cases Qh.find? (fun x=>decide (x.kind_=a0)&&decide (x.in_=a1)&&decide (x.out_=a2)) <;> rfl
 ·intro i x h;have hi:i<10:=Qs h;simp only [Xe,Vc h,show decide ((i:Int)<10)=true by simp; omega,cond_true,aA]
 ·simp [Xe,Qh]
theorem Ob(a0 a1 a2:Int):Bc a0 a1 a2=some (Pi a0 a1 a2):=by
 unfold Bc Pi;rcases kinds a0 with rfl|rfl|rfl|⟨h1,h2,h3,h4,h5,h6⟩
 ·simp [Qh,eK];rcases Jiz a1 with rfl|rfl|rfl|rfl|⟨g0,g1,g2,g3,g4,g5,g6,g7⟩ <;> rcases Jiz a2 with rfl|rfl|rfl|rfl|⟨e0,e1,e2,e3,e4,e5,e6,e7⟩ <;> simp [*] <;> omega
 ·simp [Qh,eK];rcases Jiz a1 with rfl|rfl|rfl|rfl|⟨g0,g1,g2,g3,g4,g5,g6,g7⟩ <;> rcases Jiz a2 with rfl|rfl|rfl|rfl|⟨e0,e1,e2,e3,e4,e5,e6,e7⟩ <;> simp [*] <;> (repeat' split) <;> first|rfl|omega
 ·simp [Qh,eK];rcases Jiz a1 with rfl|rfl|rfl|rfl|⟨g0,g1,g2,g3,g4,g5,g6,g7⟩ <;> rcases Jiz a2 with rfl|rfl|rfl|rfl|⟨e0,e1,e2,e3,e4,e5,e6,e7⟩ <;> simp [*] <;> omega
 ·simp [Qh, *]
def Kj4(a0 a1:Int)(i:Nat)(_:Unit)(l:List Int):Option (List Int⊕(List Int⊕List Int)) :=
 bif (Pi a0 a1 i).2 then (Qi l [(i:Int)]).map .inl else some (.inl l)
theorem Jk1(a0 a1:Int):Fg a0 a1=onInl (Jx6 (Kj4 a0 a1) (fun l=>.inl l) [(),(),(),()] 0 []) some:=by
 unfold Fg;rw [<- Jw5 (step:=Ia a0 a1) (fun (i:Nat) (l:List Int)=>((i:Int),l))]
 ·rfl
 ·intro i x l h;have hi:i<4:=Qs h;simp only [Ia,show decide ((i:Int)<4)=true by simp; omega,cond_true,Ob,aA,Kj4];cases (Pi a0 a1 i).2
  ·simp [onInl,Vm,Qt (n:=(i:Int)+1) oG oG]
  ·cases Qi l [(i:Int)] <;> simp [onInl,Vm,Qt (n:=(i:Int)+1) oG oG]
 ·intro l; simp [Ia]
theorem Jm3(a0 a1:Int):Fg a0 a1=some (Jqq a0 a1):=by
 rw [Jk1];rcases kinds a0 with rfl|rfl|rfl|⟨h1,h2,h3,h4,h5,h6⟩ <;> rcases Jiz a1 with rfl|rfl|rfl|rfl|⟨g0,g1,g2,g3,g4,g5,g6,g7⟩ <;>
  simp [Jx6,Pi,Qh,Kj4,onInl,Vm,Jqq,Qi,Enc.b,Js, *]
structure Sm (l:Ja):Prop where
 sec:l.Sections.length<=1048576
 el:l.Elements.length<=1048576
 jo:l.Joints.length<=1048576
 sg:l.Signals.length<=1048576
 ba:l.Balises.length<=1048576
 nm:l.Name.size<=1048576
 secn:∀ x∈l.Sections,x.size<=1048576
 eln:∀ x∈l.Elements,x.Name.size<=1048576
 sgn:∀ x∈l.Signals,x.Name.size<=1048576
theorem Pm(x y:Jf):Kd x y=true↔x=y:=by
 cases x; cases y; simp [Kd]
def Ky(l:Ja)(e:Jf):Jf×Bool :=
 match l.Joints.find? fun j=>Kd j.A e||Kd j.B e with
 | some j=>(bif Kd j.A e then j.B else j.A,true)
 | none=>(⟨0,0⟩,false)
theorem Jk7{l:Ja}(h:l.Joints.length<=1048576)(e:Jf):Fx l e=some (Ky l e):=by
 unfold Fx Ky;rw [Jd6 (fun j=>Kd j.A e||Kd j.B e) (fun j=>.inr (bif Kd j.A e then j.B else j.A,true)) (.inl ()) l.Joints oG]
 ·cases l.Joints.find? (fun j=>Kd j.A e||Kd j.B e) <;> rfl
 ·intro i x hx;have hi:=Qs hx;simp only [Hi,Vc hx,show decide ((i:Int)<((l.Joints.length:Nat):Int))=true by simp; omega,cond_true,aA];cases Kd x.A e <;> cases Kd x.B e <;> rfl
 ·simp [Hi]
theorem Vv{l:Ja}(h:l.Joints.length<=1048576)(e:Jf):Yf l e=some (Ky l e):=by
 unfold Yf Ky;rw [Jd6 (fun j=>Kd j.A e||Kd j.B e) (fun j=>.inr (bif Kd j.A e then j.B else j.A,true)) (.inl ()) l.Joints oG]
 ·cases l.Joints.find? (fun j=>Kd j.A e||Kd j.B e) <;> rfl
 ·intro i x hx;have hi:=Qs hx;simp only [Lm,Vc hx,show decide ((i:Int)<((l.Joints.length:Nat):Int))=true by simp; omega,cond_true,aA];cases Kd x.A e <;> cases Kd x.B e <;> rfl
 ·simp [Lm]
theorem Jke{l:Ja}(h:l.Joints.length<=1048576)(s:Jb):Ep s l=some (Ky l ⟨s.El,s.Out⟩):=by
 simp [Ep,Jk7 h]
theorem Tk{l:Ja}(h:l.Joints.length<=1048576)(s:Jb):Dk l s=some (Ky l ⟨s.El,s.Out⟩):=by
 simp [Dk,Vv h]
def Um(l:Ja)(i:Int):Bool:=decide (0<=i)&&decide (i<((l.Elements.length:Nat):Int))
theorem Jf6(l:Ja)(i:Int):Bl l i=some (Um l i):=by
 unfold Bl Um;cases decide (0<=i) <;> simp
theorem Nx(l:Ja)(i:Int):Zd l i=some (Um l i):=by
 unfold Zd Um;cases decide (0<=i) <;> simp
theorem Vj{l:Ja}{i:Int}(h:Um l i=true):∃ x,ixO l.Elements i=some x/\l.Elements[i.toNat]? = some x:=by
 simp only [Um,aI,decide_eq_true_eq] at h;obtain ⟨x,h1,h2⟩:=Is.ix (L:=l.Elements) h.1 h.2;exact ⟨x,h1,h2⟩
theorem Jsw(a0 a1:Int):(Jqq a0 a1).length<=2:=by
 unfold Jqq
 (repeat' split) <;> simp
theorem Jhv(a:Jf)(L:List Int)(h:L.length<=10):Is (Jp (Cc a L) (0,([]:List Jb))) fun o=>o=.inl (L.map fun x=>⟨a.El,a.Side,x⟩):=by
 refine Is.loop (mk:=fun (i:Nat) (m:List Jb)=>((i:Int),m)) L.length (fun i m=>m=(L.take i).map fun x=>⟨a.El,a.Side,x⟩) [] rfl ?_ ?_
 ·rintro i m hi rfl;unfold Cc;refine Is.cond (fun _=>?_) (fun hb=>by simp at hb; omega);refine Is.bind (Is.ixn hi) fun x hx=>?_;refine Is.bind (Is.app ?_) fun M hM=>?_
  ·simp only [aV,aT,aE,aF,Js,Enc.b]; omega
  ·subst hM;refine Is.val ⟨(L.take (i+1)).map fun x=>⟨a.El,a.Side,x⟩, ?_,rfl⟩;rw [Zi oG,dJ,hx];simp
 ·rintro m rfl;unfold Cc;refine Is.cond (fun hb=>by simp at hb) (fun _=>Is.val ?_);simp
def Hb(l:Ja)(a:Jf):List Jb :=
 bif Um l a.El then match l.Elements[a.El.toNat]? with
  | some x=>(Jqq x.Kind a.Side).map fun o=>⟨a.El,a.Side,o⟩
  | none=>[]
 else []
theorem Jc3(l:Ja)(a:Jf):Br l a=some (Hb l a):=by
 unfold Br Hb;rw [Nx];simp only [aA];cases h:Um l a.El with
 | false=>rfl
 | true=>
  obtain ⟨x,h1,h2⟩:=Vj h;obtain ⟨o,h3,rfl⟩:=Jhv a (Jqq x.Kind a.Side) (by have:=Jsw x.Kind a.Side; omega);simp [h1,h2,Jm3,h3,onInl,Vm]
theorem Jsy(l:Ja)(a:Jf):(Hb l a).length<=2:=by
 unfold Hb;cases Um l a.El with
 | false=>simp
 | true=>
  simp only [cond_true];split
  ·rename_i x _;have:=Jsw x.Kind a.Side
   simpa using this
  ·simp
def Jem(l:Ja)(s:Jb):Int×Bool :=
 bif Um l s.El then match l.Elements[s.El.toNat]? with
  | some x=>Pi x.Kind s.In s.Out
  | none=>(0,false)
 else (0,false)
theorem Jlk(l:Ja)(s:Jb):Gi l s=some (Jem l s):=by
 unfold Gi Jem;rw [Jf6];simp only [aA];cases h:Um l s.El with
 | false=>rfl
 | true=>
  obtain ⟨x,h1,h2⟩:=Vj h;simp [h1,h2,Jg5]
def lenOf(l:Ja)(s:Jb):Int:=bif Um l s.El then ((l.Elements[s.El.toNat]?).map (·.Length)).getD 0 else 0
def Uf(l:Ja):List Jb->Int
 | []=>0
 | s::r=>lenOf l s+Uf l r
theorem Yl(l:Ja):∀ a b:List Jb,Uf l (a++b)=Uf l a+Uf l b
 | [],b=>by simp [Uf]
 | s::r,b=>by simp only [bO,Uf,Yl l r b]; omega
theorem Jo2(l:Ja)(way:List Jb)(h:way.length<=1048576):Dx l way=some (w64 (Uf l way)):=by
 unfold Dx;have:Is (Jp (Gc l way) (0,0)) fun o=>o=.inl (w64 (Uf l way)):=by
  refine Is.loop (mk:=fun (i:Nat) (x:Int)=>(x,(i:Int))) way.length (fun i x=>x=w64 (Uf l (way.take i))) 0 rfl ?_ ?_
  ·rintro i x hi rfl;unfold Gc;refine Is.cond (fun _=>?_) (fun hb=>by simp at hb; omega);refine Is.onInl (θ:=fun o=>o=.inl (w64 (Uf l (way.take (i+1))))) ?_ ?_ ?_
   ·refine Is.bind (Is.ixn hi) fun s hs=>?_;have e:Uf l (way.take (i+1))=Uf l (way.take i)+lenOf l s:=by
     rw [dJ,hs,Option.toList_some,Yl]; simp [Uf]
    rw [Jf6];refine Is.bind (Is.eq rfl) fun b hb=>?_;refine Is.cond (fun hb'=>?_) (fun hb'=>?_)
    ·subst hb;obtain ⟨x,h1,h2⟩:=Vj hb';refine Is.bind (Is.eq h1) fun y hy=>?_;subst hy;refine Is.val ?_;rw [e,Kas];simp [lenOf,hb',h2]
    ·subst hb;refine Is.val ?_;rw [e];simp [lenOf,hb']
   ·rintro v hv;cases hv;exact Is.val ⟨_,by rw [Zi oG],rfl⟩
   ·intro b hb; cases hb
  ·rintro x rfl;unfold Gc;refine Is.cond (fun hb=>by simp at hb) (fun _=>Is.val ?_);rw [aR]
 obtain ⟨o,h1,rfl⟩:=this;simp [h1,onInl,Vm]
def Jan(l:Ja)(way:List Jb)(i:Nat):Prop :=
 ∃ s,way[i]? = some s/\(Jem l s).2=true/\(∀ k t,k<i->way[k]? = some t->t.El≠s.El)/\(∀ p,0<i->way[i - 1]? = some p->Ky l ⟨p.El,p.Out⟩=(⟨s.El,s.In⟩,true))
def Vo(l:Ja)(way:List Jb):Prop:=1<=way.length/\way.length<=64/\∀ i,i<way.length->Jan l way i
theorem Kft(s:Jb)(L:List Jb)(h:L.length<=1048576):Is (Jp (Im s L) 0) fun o=>match o with
  | .inl _=>∀ t∈L,t.El≠s.El
  | .inr x=>x=.inr (.inr (.inr false))/\∃ t∈L,t.El=s.El:=by
 refine Is.loop (mk:=fun (i:Nat) (_:Unit)=>(i:Int)) L.length (fun i _=>∀ k t,k<i->L[k]? = some t->t.El≠s.El) () (fun k t hk=>by omega) ?_ ?_
 ·rintro i m hi hI;unfold Im;refine Is.cond (fun _=>?_) (fun hb=>by simp at hb; omega);refine Is.bind (Is.ixn hi) fun t ht=>?_;refine Is.cond (fun hb=>?_) (fun hb=>?_)
  ·exact Is.val ⟨rfl,t,aC ht,by simpa using hb⟩
  ·refine Is.val ⟨(),by rw [Zi oG],fun k u hk hu=>?_⟩
   by_cases e:k=i
   ·subst e; rw [ht] at hu; cases hu; simpa using hb
   ·exact hI k u oG hu
 ·rintro m hI;unfold Im;refine Is.cond (fun hb=>by simp at hb) (fun _=>Is.val ?_);intro t ht;obtain ⟨k,hk⟩:=aS ht;exact hI k t (aG.1 hk).1 hk
theorem Xf(l:Ja)(way:List Jb)(hl:l.Joints.length<=1048576)(h:way.length<=1048576):Is (Dq l way) fun b=>b=true↔Vo l way:=by
 unfold Dq;refine Is.bind (φ:=fun b=>b=true↔(way.length=0\/64<way.length)) ?_ fun b hb=>?_
 ·refine Is.cond (fun hb=>Is.val ?_) (fun hb=>Is.val ?_)
  ·have:((way.length:Nat):Int)=0:=of_decide_eq_true hb;simp only [true_iff]; omega
  ·have:¬ ((way.length:Nat):Int)=0:=of_decide_eq_false hb;rw [decide_eq_true_iff]; omega
 refine Is.cond (fun hb'=>Is.val ?_) (fun hb'=>?_)
 ·have:=hb.1 hb';simp only [aQ,Vo,false_iff];omega
 ·have hlen:¬ (way.length=0\/64<way.length):=fun e=>by rw [hb.2 e] at hb'; cases hb'
  simp only [Rf];refine Is.bind (Is.eq rfl) fun r hr=>?_;rw [show r=l from hr];refine Is.onInl (θ:=fun o=>match o with|.inl _=>∀ i,i<way.length->Jan l way i|.inr b=>b=false/\∃ i,i<way.length/\¬ Jan l way i) ?_ ?_ ?_
  ·refine Is.loop (mk:=fun (i:Nat) (_:Unit)=>(i:Int)) way.length (fun i _=>∀ j,j<i->Jan l way j) () (fun j hj=>by omega) ?_ ?_
   ·rintro i m hi hI;unfold Pv;refine Is.cond (fun _=>?_) (fun hb=>by simp at hb; omega);refine Is.onInl (θ:=fun o=>match o with|.inl _=>Jan l way i|.inr x=>x=.inr (.inr false)/\¬ Jan l way i) ?_ ?_ ?_
    ·refine Is.bind (Is.ixn hi) fun s hs=>?_;rw [Jlk];refine Is.bind (Is.eq rfl) fun r hr=>?_;subst hr;have bad:∀ {q:Prop},(Jan l way i->q)->¬ q->¬ Jan l way i:=fun h1 h2 h3=>h2 (h1 h3);refine Is.cond (fun hb=>Is.val ⟨rfl, ?_⟩) (fun hb=>?_)
     ·rintro ⟨s',h1,h2,_⟩;rw [hs] at h1; cases h1;rw [h2] at hb; cases hb
     ·have hpos:(Jem l s).2=true:=by simpa using hb
      rw [Jyv (Nat.le_of_lt hi)];refine Is.bind (Is.eq rfl) fun L hL=>?_;subst hL;refine Is.onInl (Kft s (way.take i) (by simp; omega)) ?_ ?_
      ·rintro v hv;have hd:∀ k t,k<i->way[k]? = some t->t.El≠s.El:=fun k t hk ht=>hv t (aC (i:=k) (by rw [bS,if_pos hk]; exact ht));refine Is.cond (fun h0=>Is.val ?_) (fun h0=>?_)
       ·have:i=0:=by
         have:(i:Int)=0:=by simpa using h0
         omega
        exact ⟨s,hs,hpos,hd,fun p hp=>by omega⟩
       ·have hi0:i≠0:=by
         have:¬ (i:Int)=0:=by simpa using h0
         omega
        have e:w64 ((i:Int) - 1)=((i - 1:Nat):Int):=by rw [Qt oG oG]; omega
        rw [e];refine Is.bind (Is.ixn oG) fun p hp=>?_;rw [Jke hl];refine Is.bind (Is.eq rfl) fun r hr=>?_;subst hr;refine Is.cond (fun hb=>Is.val ⟨rfl, ?_⟩) (fun hb=>Is.val ⟨s,hs,hpos,hd,fun p' _ hp'=>?_⟩)
        ·rintro ⟨s',h1,_,_,h4⟩;rw [hs] at h1; cases h1;rw [h4 p oG hp] at hb;simp at hb
        ·rw [hp] at hp'; cases hp';simp at hb;obtain ⟨⟨h5,h6⟩,h7⟩:=hb;cases hq:Ky l ⟨p.El,p.Out⟩ with
         | mk e z=>
          cases e;rw [hq] at h5 h6 h7
          simp_all
      ·rintro x ⟨rfl,t,ht,he⟩;refine ⟨rfl, ?_⟩;rintro ⟨s',h1,_,h3,_⟩;rw [hs] at h1; cases h1;obtain ⟨k,hk⟩:=aS ht;rw [bS] at hk;split at hk
       ·rename_i hki; exact h3 k t hki hk he
       ·cases hk
    ·rintro v hv;refine Is.val ⟨(),by rw [Zi oG],fun j hj=>?_⟩
     by_cases e:j=i
     ·subst e; exact hv
     ·exact hI j oG
    ·rintro x ⟨rfl,hv⟩;exact ⟨rfl,i,hi,hv⟩
   ·rintro m hI;unfold Pv;refine Is.cond (fun hb=>by simp at hb) (fun _=>Is.val ?_);exact hI
  ·rintro v hv;refine Is.val ?_;simp only [true_iff,Vo];exact ⟨by omega,by omega,hv⟩
  ·rintro b ⟨rfl,i,hi,hn⟩;simp only [aQ,false_iff,Vo];exact fun e=>hn (e.2.2 i hi)
theorem Jbq(a0:Int):Gn a0=some (Jc9 a0):=by
 unfold Gn Jc9;simp [eK]
 (repeat' split) <;> simp_all
def exS(l:Ja)(e:Jf):Bool :=
 Um l e.El&&decide (0<=e.Side)&&(match l.Elements[e.El.toNat]? with|some x=>decide (e.Side<Jc9 x.Kind)|none=>false)
theorem Jfl(l:Ja)(e:Jf):Ch l e=some (exS l e):=by
 unfold Ch exS;have h1:((bif decide (0<=e.El) then (some (decide (e.El<((l.Elements.length:Nat):Int)))) else some false):Option Bool)=some (Um l e.El):=by
  unfold Um; cases decide (0<=e.El) <;> simp
 rw [h1];simp only [aA];cases h:Um l e.El with
 | false=>rfl
 | true=>
  obtain ⟨x,h2,h3⟩:=Vj h;cases decide (0<=e.Side) with
  | false=>rfl
  | true=>simp [h2,h3,Jbq]
theorem Vp{α:Type}{L:List α}{i:Nat}{x:α}(h:L[i]? = some x):L.take (i+1)=L.take i++[x]:=by rw [dJ,h]; rfl
theorem Joy{l:Ja}(h:Sm l):Is (Mn l) fun r=>r.x0=l.Sections/\r.x1=l.Elements.map (·.Name)/\r.x2=l.Signals.map (·.Name):=by
 unfold Mn;have h1:=h.sec; have h2:=h.el; have h3:=h.sg;refine Is.bind (Is.app (by simp only [aF,Js,Enc.b]; omega)) fun x1 hx1=>?_;refine Is.onInl (θ:=fun o=>o=.inl (l.Elements.map (·.Name))) ?_ ?_ (fun b hb=>by cases hb)
 ·refine Is.loop (mk:=fun (i:Nat) (m:List ByteArray)=>((i:Int),m)) l.Elements.length (fun i m=>m=(l.Elements.take i).map (·.Name)) [] rfl ?_ ?_
  ·rintro i m hi rfl;unfold Nv;refine Is.cond (fun _=>?_) (fun hb=>by simp at hb; omega);refine Is.bind (Is.ixn hi) fun x hx=>?_;refine Is.bind (Is.app ?_) fun M hM=>?_
   ·simp only [aV,aT,aE,aF,Js,Enc.b]; omega
   ·subst hM;exact Is.val ⟨_,by rw [Zi oG],by rw [dJ,hx]; simp⟩
  ·rintro m rfl;unfold Nv;exact Is.cond (fun hb=>by simp at hb) (fun _=>Is.val (by rw [aR]))
 ·rintro v hv;cases hv;refine Is.onInl (θ:=fun o=>o=.inl (l.Signals.map (·.Name))) ?_ ?_ (fun b hb=>by cases hb)
  ·refine Is.loop (mk:=fun (i:Nat) (m:List ByteArray)=>((i:Int),m)) l.Signals.length (fun i m=>m=(l.Signals.take i).map (·.Name)) [] rfl ?_ ?_
   ·rintro i m hi rfl;unfold Nu;refine Is.cond (fun _=>?_) (fun hb=>by simp at hb; omega);refine Is.bind (Is.ixn hi) fun x hx=>?_;refine Is.bind (Is.app ?_) fun M hM=>?_
    ·simp only [aV,aT,aE,aF,Js,Enc.b]; omega
    ·subst hM;exact Is.val ⟨_,by rw [Zi oG],by rw [dJ,hx]; simp⟩
   ·rintro m rfl;unfold Nu;exact Is.cond (fun hb=>by simp at hb) (fun _=>Is.val (by rw [aR]))
  ·rintro v hv;cases hv;exact Is.val ⟨by rw [hx1,cX],rfl,rfl⟩
def Ri(L:List Vk):List Jf:=L.flatMap fun j=>[j.A,j.B]
theorem Jw8(L:List Vk)(j:Vk):Ri (L++[j])=Ri L++[j.A,j.B]:=by simp [Ri]
def Jt0(l:Ja):Prop:=(∀ j∈l.Joints,exS l j.A=true/\exS l j.B=true)/\(Ri l.Joints).Nodup
theorem Jtw{l:Ja}{e:Jf}(h:exS l e=true):Um l e.El=true:=by
 simp only [exS,aI] at h; exact h.1.1
theorem Jvq{l:Ja}(hJ:Jt0 l){e f:Jf}(h:Ky l e=(f,true)):exS l f=true:=by
 unfold Ky at h;split at h
 ·rename_i j hj;have hm:=hJ.1 j (eB hj);cases hA:Kd j.A e <;> rw [hA] at h <;> simp at h <;> subst h
  ·exact hm.1
  ·exact hm.2
 ·simp at h
theorem Jd1{α:Type}{p:List α->Prop}(h0:p [])(h1:∀ l x,p l->p (l++[x]))(l:List α):p l:=by
 have key:∀ m:List α,p m.reverse:=by
  intro m;induction m with
  | nil=>exact h0
  | cons x m ih=>rw [List.reverse_cons]; exact h1 _ _ ih
 have:=key l.reverse
 rwa [List.reverse_reverse] at this
section
variable {α:Type} [DecidableEq α]
def Jly(acc:List α)(x:α):List α:=if acc.getLast? = some x then acc else acc++[x]
def ddS(l:List α):List α:=l.foldl Jly []
theorem Jjb(l:List α)(x:α):ddS (l++[x])=Jly (ddS l) x:=by simp [ddS,List.foldl_append]
theorem Jws(l:List α):(ddS l).getLast? = l.getLast?:=by
 induction l using Jd1 with
 | h0=>rfl
 | h1 l x ih=>
  rw [Jjb,Jly];split
  ·rename_i h; rw [h]; simp
  ·simp
theorem Jti(l:List α):(ddS l).length<=l.length:=by
 induction l using Jd1 with
 | h0=>simp [ddS]
 | h1 l x ih=>
  rw [Jjb,Jly];split
  ·simp; omega
  ·simp; omega
theorem Juy(l:List α)(x:α):x∈ddS l↔x∈l:=by
 induction l using Jd1 with
 | h0=>simp [ddS]
 | h1 l y ih=>
  rw [Jjb,Jly];split
  ·rename_i h;rw [ih,aY,cA];constructor
   ·exact .inl
   ·rintro (h1|rfl)
    ·exact h1
    ·rw [Jws] at h;exact List.mem_of_getLast? h
  ·simp [ih]
theorem Jix{lt:α->α->Bool}(tr:∀ x y z,lt x y=true->lt y z=true->lt x z=true)(tot:∀ x y,lt y x=false->x=y\/lt x y=true)(l:List α)(h:l.Pairwise fun x y=>lt y x=false):(ddS l).Pairwise fun x y=>lt x y=true:=by
 induction l using Jd1 with
 | h0=>simp [ddS]
 | h1 l y ih=>
  rw [aZ] at h;obtain ⟨h1,_,h2⟩:=h;have ih':=ih h1;rw [Jjb,Jly];split
  ·exact ih'
  ·rename_i hne;rw [aZ];refine ⟨ih',by simp,fun x hx z hz=>?_⟩;simp only [cA] at hz;subst hz
   -- the last element of what is kept
   obtain ⟨m,hm⟩:∃ m,(ddS l).getLast? = some m:=by
    cases hd:ddS l with
    | nil=>rw [hd] at hx; cases hx
    | cons a r=>exact ⟨_,List.getLast?_eq_some_getLast (List.cons_ne_nil _ _)⟩
   have hml:m∈l:=by rw [Jws] at hm; exact List.mem_of_getLast? hm
   have hmz:lt m z=true:=by
    rcases tot m z (h2 m hml z sG) with e|e
    ·subst e; exact absurd hm hne
    ·exact e
   by_cases hxm:x=m
   ·subst hxm; exact hmz
   ·have hsplit:∃ a,ddS l=a++[m]:=by
     refine ⟨(ddS l).dropLast, ?_⟩;have hne':ddS l≠[]:=fun e=>by rw [e] at hx; cases hx
     have:=List.dropLast_concat_getLast hne';rw [List.getLast?_eq_some_getLast hne'] at hm;cases hm;exact this.symm
    obtain ⟨a,ha⟩:=hsplit;rw [ha] at hx ih';rw [aZ] at ih';rcases aY.1 hx with hx|hx
    ·exact tr x m z (ih'.2.2 x hx m sG) hmz
    ·exact absurd (by simpa using hx) hxm
theorem Tz{lt:α->α->Bool}(ir:∀ x,lt x x=false)(tr:∀ x y z,lt x y=true->lt y z=true->lt x z=true):∀ (a b:List α),a.Pairwise (fun x y=>lt x y=true)->b.Pairwise (fun x y=>lt x y=true)->(∀ x,x∈a↔x∈b)->a=b
 | [],[],_,_,_=>rfl
 | [],y::b,_,_,h=>absurd ((h y).2 sG) sG
 | x::a,[],_,_,h=>absurd ((h x).1 sG) sG
 | x::a,y::b,ha,hb,h=>by
  rw [cR] at ha hb;have hxy:x=y:=by
   have h1:=(h x).1 sG;have h2:=(h y).2 sG;rcases bD.1 h1 with e|h1
   ·exact e
   ·rcases bD.1 h2 with e|h2
    ·exact e.symm
    ·have:=tr _ _ _ (hb.1 x h1) (ha.1 y h2);rw [ir] at this; cases this
  subst hxy;have hnx:∀ {l:List α},(∀ z∈l,lt x z=true)->x∉l:=fun hl hm=>by
   have:=hl x hm;rw [ir] at this; cases this
  rw [Tz ir tr a b ha.2 hb.2 fun z=>?_]
  by_cases hz:z=x
  ·subst hz; exact ⟨fun q=>absurd q (hnx ha.1),fun q=>absurd q (hnx hb.1)⟩
  ·have:=h z
   simpa [hz] using this
end
theorem Jia(l:Ja)(s:Jb):Lv l s=some (Jem l s):=by
 unfold Lv Jem;rw [Nx];simp only [aA];cases h:Um l s.El with
 | false=>rfl
 | true=>
  obtain ⟨x,h1,h2⟩:=Vj h;simp [h1,h2,Ob]
theorem Jou(way:List Jb)(h:way.length<=1048576){i:Nat}{s:Jb}(hs:way[i]? = some s):Is (Jp (Fz way i) 0) fun o=>match o with
  | .inl _=>∀ k t,k<i->way[k]? = some t->t.El≠s.El
  | .inr x=>x=.inr (.inr false)/\∃ k t,k<i/\way[k]? = some t/\t.El=s.El:=by
 have hi:=Qs hs;refine Is.loop (mk:=fun (i:Nat) (_:Unit)=>(i:Int)) i (fun j _=>∀ k t,k<j->way[k]? = some t->t.El≠s.El) () (fun k t hk=>by omega) ?_ ?_
 ·rintro j m hj hI;unfold Fz;refine Is.cond (fun _=>?_) (fun hb=>by simp at hb; omega);refine Is.bind (Is.ixn (Nat.lt_trans hj hi)) fun t ht=>Is.bind (Is.ixn hi) fun u hu=>?_;rw [hs] at hu; cases hu;refine Is.cond (fun hb=>?_) (fun hb=>?_)
  ·exact Is.val ⟨rfl,j,t,hj,ht,by simpa using hb⟩
  ·refine Is.val ⟨(),by rw [Zi oG],fun k u hk hu=>?_⟩
   by_cases e:k=j
   ·subst e; rw [ht] at hu; cases hu; simpa using hb
   ·exact hI k u oG hu
 ·rintro m hI;unfold Fz;exact Is.cond (fun hb=>by simp at hb) (fun _=>Is.val hI)
theorem Et(l:Ja)(way:List Jb)(hl:l.Joints.length<=1048576)(h:way.length<=1048576):Is (Yz l way) fun b=>b=true↔Vo l way:=by
 unfold Yz;refine Is.bind (φ:=fun b=>b=true↔(way.length=0\/64<way.length)) ?_ fun b hb=>?_
 ·refine Is.cond (fun hb=>Is.val ?_) (fun hb=>Is.val ?_)
  ·have:((way.length:Nat):Int)=0:=of_decide_eq_true hb;simp only [true_iff]; omega
  ·have:¬ ((way.length:Nat):Int)=0:=of_decide_eq_false hb;rw [decide_eq_true_iff]; omega
 refine Is.cond (fun hb'=>Is.val ?_) (fun hb'=>?_)
 ·have:=hb.1 hb';simp only [aQ,Vo,false_iff];omega
 ·have hlen:¬ (way.length=0\/64<way.length):=fun e=>by rw [hb.2 e] at hb'; cases hb'
  refine Is.onInl (θ:=fun o=>match o with|.inl _=>∀ i,i<way.length->Jan l way i|.inr b=>b=false/\∃ i,i<way.length/\¬ Jan l way i) ?_ ?_ ?_
  ·refine Is.loop (mk:=fun (i:Nat) (_:Unit)=>(i:Int)) way.length (fun i _=>∀ j,j<i->Jan l way j) () (fun j hj=>by omega) ?_ ?_
   ·rintro i m hi hI;unfold Ny;refine Is.cond (fun _=>?_) (fun hb=>by simp at hb; omega);refine Is.bind (Is.ixn hi) fun s hs=>?_;rw [Jia];refine Is.bind (Is.eq rfl) fun r hr=>?_;subst hr;refine Is.cond (fun hb=>Is.val ⟨rfl,i,hi, ?_⟩) (fun hb=>?_)
    ·rintro ⟨s',h1,h2,_⟩;rw [hs] at h1; cases h1;rw [h2] at hb; cases hb
    have hpos:(Jem l s).2=true:=by simpa using hb
    refine Is.onInl (θ:=fun o=>match o with|.inl _=>(∀ p,0<i->way[i - 1]? = some p->Ky l ⟨p.El,p.Out⟩=(⟨s.El,s.In⟩,true))|.inr x=>x=.inr (.inr false)/\¬ Jan l way i) ?_ ?_ ?_
    ·refine Is.cond (fun h0=>?_) (fun h0=>Is.val fun p hp=>?_)
     ·have hi0:0<i:=by
       have:(0:Int)<i:=of_decide_eq_true h0;omega
      have e:w64 ((i:Int) - 1)=((i - 1:Nat):Int):=by rw [Qt oG oG]; omega
      rw [e];refine Is.bind (Is.ixn oG) fun p hp=>?_;rw [Tk hl];refine Is.bind (Is.eq rfl) fun r hr=>?_;subst hr;refine Is.bind (φ:=fun b=>b=true↔((Ky l ⟨p.El,p.Out⟩).2=false\/(Ky l ⟨p.El,p.Out⟩).1.El≠s.El)) ?_ fun b1 hb1=>?_
      ·refine Is.cond (fun hc=>Is.val ?_) (fun hc=>?_)
       ·simp at hc; simp [hc]
       ·simp at hc;refine Is.bind (Is.ixn hi) fun u hu=>Is.val ?_;rw [hs] at hu; cases hu;simp [hc]
      refine Is.bind (φ:=fun b=>b=true↔((Ky l ⟨p.El,p.Out⟩).2=false\/(Ky l ⟨p.El,p.Out⟩).1.El≠s.El\/(Ky l ⟨p.El,p.Out⟩).1.Side≠s.In)) ?_ fun b2 hb2=>?_
      ·refine Is.cond (fun hc=>Is.val ?_) (fun hc=>?_)
       ·rcases hb1.1 hc with e|e <;> simp [e]
       ·have hc':¬ ((Ky l ⟨p.El,p.Out⟩).2=false\/(Ky l ⟨p.El,p.Out⟩).1.El≠s.El):=fun e=>by rw [hb1.2 e] at hc; cases hc
        refine Is.bind (Is.ixn hi) fun u hu=>Is.val ?_;rw [hs] at hu; cases hu;have h1:¬ (Ky l ⟨p.El,p.Out⟩).2=false:=fun e=>hc' (.inl e);have h2:¬ (Ky l ⟨p.El,p.Out⟩).1.El≠s.El:=fun e=>hc' (.inr e);constructor
        ·intro e;exact .inr (.inr (by simpa using e))
        ·rintro (e|e|e)
         ·exact absurd e h1
         ·exact absurd e h2
         ·simpa using e
      refine Is.cond (fun hc=>Is.val ⟨rfl, ?_⟩) (fun hc=>Is.val fun p' _ hp'=>?_)
      ·rintro ⟨s',h1,_,_,h4⟩;rw [hs] at h1; cases h1;have:=h4 p hi0 hp;rcases hb2.1 hc with e|e|e
       ·rw [this] at e; cases e
       ·rw [this] at e; exact e rfl
       ·rw [this] at e; exact e rfl
      ·rw [hp] at hp'; cases hp';have hc':¬ ((Ky l ⟨p.El,p.Out⟩).2=false\/(Ky l ⟨p.El,p.Out⟩).1.El≠s.El\/(Ky l ⟨p.El,p.Out⟩).1.Side≠s.In):=fun e=>by rw [hb2.2 e] at hc; cases hc
       cases hq:Ky l ⟨p.El,p.Out⟩ with
       | mk e z=>
        cases e;rw [hq] at hc'
        simp_all
     ·have:¬ (0:Int)<i:=of_decide_eq_false h0;omega
    ·intro v hv;refine Is.onInl (Jou way h hs) ?_ ?_
     ·intro w hw;refine Is.val ⟨(),by rw [Zi oG],fun j hj=>?_⟩
      by_cases e:j=i
      ·subst e; exact ⟨s,hs,hpos,hw,hv⟩
      ·exact hI j oG
     ·rintro x ⟨rfl,k,t,hk,ht,he⟩;refine ⟨rfl,i,hi, ?_⟩;rintro ⟨s',h1,_,h3,_⟩;rw [hs] at h1; cases h1;exact h3 k t hk ht he
    ·rintro x ⟨rfl,hn⟩;exact ⟨rfl,i,hi,hn⟩
   ·rintro m hI;unfold Ny;exact Is.cond (fun hb=>by simp at hb) (fun _=>Is.val hI)
  ·rintro v hv;refine Is.val ?_;simp only [true_iff,Vo];exact ⟨by omega,by omega,hv⟩
  ·rintro b ⟨rfl,i,hi,hn⟩;simp only [aQ,false_iff,Vo];exact fun e=>hn (e.2.2 i hi)
theorem Jao(l:Ja)(way:List Jb)(h:way.length<=1048576):Cd l way=some (w64 (Uf l way)):=by
 unfold Cd;have:Is (Jp (Eh l way) (0,0)) fun o=>o=.inl (w64 (Uf l way)):=by
  refine Is.loop (mk:=fun (i:Nat) (x:Int)=>(x,(i:Int))) way.length (fun i x=>x=w64 (Uf l (way.take i))) 0 rfl ?_ ?_
  ·rintro i x hi rfl;unfold Eh;refine Is.cond (fun _=>?_) (fun hb=>by simp at hb; omega);refine Is.onInl (θ:=fun o=>o=.inl (w64 (Uf l (way.take (i+1))))) ?_ ?_ ?_
   ·refine Is.bind (Is.ixn hi) fun s hs=>?_;have e:Uf l (way.take (i+1))=Uf l (way.take i)+lenOf l s:=by
     rw [Vp hs,Yl]; simp [Uf]
    rw [Nx];refine Is.bind (Is.eq rfl) fun b hb=>?_;refine Is.cond (fun hb'=>?_) (fun hb'=>?_)
    ·subst hb;refine Is.bind (Is.ixn hi) fun s' hs'=>?_;rw [hs] at hs'; cases hs';obtain ⟨x,h1,h2⟩:=Vj hb';refine Is.bind (Is.eq h1) fun y hy=>?_;subst hy;refine Is.val ?_;rw [e,Kas];simp [lenOf,hb',h2]
    ·subst hb;refine Is.val ?_;rw [e];simp [lenOf,hb']
   ·rintro v hv;cases hv;exact Is.val ⟨_,by rw [Zi oG],rfl⟩
   ·intro b hb; cases hb
  ·rintro x rfl;unfold Eh;refine Is.cond (fun hb=>by simp at hb) (fun _=>Is.val ?_);rw [aR]
 obtain ⟨o,h1,rfl⟩:=this;simp [h1,onInl,Vm]
def Jh1(L:List Int):List Int:=L.foldl (fun acc x=>if x∈acc then acc else acc++[x]) []
theorem Ji8(L:List Int)(x:Int):Jh1 (L++[x])=if x∈Jh1 L then Jh1 L else Jh1 L++[x]:=by
 unfold Jh1;rw [List.foldl_append]
 rfl
theorem Kdf(L:List Int)(y:Int):y∈Jh1 L↔y∈L:=by
 induction L using Jd1 with
 | h0=>simp [Jh1]
 | h1 l x ih=>
  rw [Ji8];split
  ·rename_i h;rw [ih,aY,cA];exact ⟨.inl,fun q=>q.elim id fun e=>by subst e; exact ih.1 h⟩
  ·simp [ih]
theorem Kco(L:List Int):(Jh1 L).length<=L.length:=by
 induction L using Jd1 with
 | h0=>simp [Jh1]
 | h1 l x ih=>
  rw [Ji8];split <;> simp <;> omega
def Jqj(l:Ja)(s:Jb):Option Int:=bif Um l s.El then (l.Elements[s.El.toNat]?).map (·.Section) else none
def Jbm(l:Ja)(way:List Jb):List Int:=Jh1 (way.filterMap (Jqj l))
theorem Kcl(l:Ja)(way:List Jb)(s:Jb):Jbm l (way++[s])=match Jqj l s with|some x=>if x∈Jbm l way then Jbm l way else Jbm l way++[x]|none=>Jbm l way:=by
 unfold Jbm;rw [List.filterMap_append,List.filterMap_cons,List.filterMap_nil];cases Jqj l s with
 | none=>simp
 | some x=>rw [Ji8]
theorem Jj9(l:Ja)(way:List Jb):(Jbm l way).length<=way.length:=bG (Kco _) (List.length_filterMap_le _ _)
theorem Jtl(L:List Int)(x:Int)(h:L.length<=1048576):Xn L x=some (decide (x∈L)):=by
 unfold Xn;rw [Jd6 (fun y=>decide (y=x)) (fun _=>.inr true) (.inl ()) L oG]
 ·cases hf:L.find? (fun y=>decide (y=x)) with
  | none=>
   have:¬ x∈L:=fun hm=>by
    have:=List.find?_eq_none.1 hf x hm;simp at this
   simp [this,onInl,Vm]
  | some y=>
   have h1:=List.find?_some hf;have h2:=eB hf;simp at h1; subst h1;simp [h2,onInl,Vm]
 ·intro i y hy;have hi:=Qs hy;simp only [Xi,Vc hy,show decide ((i:Int)<((L.length:Nat):Int))=true by simp; omega,cond_true,aA]
 ·simp [Xi]
theorem Rr(l:Ja)(way:List Jb)(h:way.length<=1000000):Wv l way=some (Jbm l way):=by
 unfold Wv;have:Is (Jp (Ca l way) (0,[])) fun o=>o=.inl (Jbm l way):=by
  refine Is.loop (mk:=fun (i:Nat) (m:List Int)=>((i:Int),m)) way.length (fun i m=>m=Jbm l (way.take i)) [] rfl ?_ ?_
  ·rintro i m hi rfl;unfold Ca;refine Is.cond (fun _=>?_) (fun hb=>by simp at hb; omega);have hlen:(Jbm l (way.take i)).length<=i:=bG (Jj9 _ _) (by simp; omega);refine Is.onInl (θ:=fun o=>o=.inl (Jbm l (way.take (i+1)))) ?_ ?_ (fun b hb=>by cases hb)
   ·refine Is.bind (Is.ixn hi) fun s hs=>?_;rw [Nx,Vp hs,Kcl];refine Is.bind (Is.eq rfl) fun b hb=>?_;cases hE:Um l s.El with
    | false=>
     subst hb;rw [hE];exact Is.val (by simp [Jqj,hE])
    | true=>
     subst hb;rw [hE];obtain ⟨x,h1,h2⟩:=Vj hE;have hso:Jqj l s=some x.Section:=by simp [Jqj,hE,h2]
     rw [hso];refine Is.bind (φ:=fun b=>b = !decide (x.Section∈Jbm l (way.take i))) (Is.cond (fun _=>?_) (fun e=>by cases e)) fun b hb=>?_
     ·refine Is.bind (Is.ixn hi) fun s' hs'=>?_;rw [hs] at hs'; cases hs';rw [h1];refine Is.bind (Is.eq rfl) fun y hy=>?_;subst hy;rw [Jtl _ _ oG];exact Is.val rfl
     ·subst hb
      by_cases hm:x.Section∈Jbm l (way.take i)
      ·simp only [hm,decide_true,aX,cond_false,if_pos];exact Is.val rfl
      ·simp only [hm,decide_false,cH,cond_true,if_false];refine Is.bind (Is.ixn hi) fun s' hs'=>?_;rw [hs] at hs'; cases hs';rw [h1];refine Is.bind (Is.eq rfl) fun y hy=>?_;subst hy;refine Is.bind (Is.app ?_) fun M hM=>?_
       ·simp only [aE,aF,Js,Enc.b]; omega
       ·subst hM; exact Is.val rfl
   ·rintro v hv;cases hv;exact Is.val ⟨_,by rw [Zi oG],rfl⟩
  ·rintro m rfl;unfold Ca;exact Is.cond (fun hb=>by simp at hb) (fun _=>Is.val (by rw [aR]))
 obtain ⟨o,h1,rfl⟩:=this;simp [h1,onInl,Vm]
theorem Jh6(x y:Jg):Wu x y=true↔x=y:=by
 cases x; cases y; simp [Wu]
instance : DecidableEq Jg:=fun x y=>decidable_of_iff _ (Jh6 x y)
theorem Jtx(x y:Jg):Wu x y=decide (x=y):=by
 rw [dA,Jh6,decide_eq_true_iff]
theorem Jxc(o:Nat){n i:Nat}(h:i<n):Wd o n (i:Int)=some (o+i):=by
 unfold Wd;rw [if_pos oG]; rfl
theorem Kan{α:Type}{L:List α}{n j:Nat}(h:L.length=n):Vd L n j=L[j]?:=by
 unfold Vd;rw [if_pos h]
def ltS(x y:Jg):Bool:=decide (x.El<y.El\/(x.El=y.El/\x.Pos<y.Pos))
theorem Jb5(x y:Jg):ltS x y=decide (x.El<y.El\/(x.El=y.El/\x.Pos<y.Pos)):=rfl
theorem Kh4(x:Jg):ltS x x=false:=by rw [Jb5]; simp
theorem Jt8(x y z:Jg)(h1:ltS x y=true)(h2:ltS y z=true):ltS x z=true:=by
 rw [Jb5,decide_eq_true_iff] at *; omega
theorem Ju8(x y:Jg)(h:ltS y x=false):x=y\/ltS x y=true:=by
 rw [Jb5] at h ⊢;simp only [decide_eq_false_iff_not,decide_eq_true_eq] at h ⊢;obtain ⟨a,b⟩:=x;obtain ⟨c,d⟩:=y;simp only [Jg.mk.injEq] at h ⊢;omega
def Asc(l:List Jg):Prop:=l.Pairwise fun x y=>ltS x y=true
theorem Asc.one{a b:List Jg}(ha:Asc a)(hb:Asc b)(h:∀ x,x∈a↔x∈b):a=b:=Tz Kh4 Jt8 a b ha hb h
def Kax(l:Ja)(s:Jb):Option Jg:=bif (Jem l s).2 && !decide ((Jem l s).1=0) then some ⟨s.El,(Jem l s).1⟩ else none
def Jrs(l:Ja)(way:List Jb):List Jg:=way.filterMap (Kax l)
def Jm9(l:Ja)(way:List Jb):List Jg:=ddS ((Jrs l way).mergeSort fun x y=> !ltS y x)
theorem Kde(l:Ja)(way:List Jb)(s:Jb):Jrs l (way++[s])=Jrs l way++(Kax l s).toList:=by
 unfold Jrs;rw [List.filterMap_append,List.filterMap_cons,List.filterMap_nil];cases Kax l s <;> rfl
theorem Kgh(l:Ja)(way:List Jb):(Jrs l way).length<=way.length:=List.length_filterMap_le _ _
theorem Kfd(l:Ja)(way:List Jb)(x:Jg):x∈Jm9 l way↔x∈Jrs l way:=by
 rw [Jm9,Juy,(dL _ _).mem_iff]
theorem Jp0(l:Ja)(way:List Jb):(Jm9 l way).length<=way.length:=by
 refine bG (Jti _) ?_;rw [(dL _ _).length_eq];exact Kgh l way
theorem Kez(l:Ja)(way:List Jb):Asc (Jm9 l way):=by
 refine Jix Jt8 Ju8 _ ?_;have:=List.pairwise_mergeSort (le:=fun x y=> !ltS y x) (fun a b c h1 h2=>?_) (fun a b=>?_) (Jrs l way)
 ·exact this.imp fun h=>by simpa using h
 ·simp only [Jb5,bL,decide_eq_false_iff_not] at *; omega
 ·cases h:ltS b a with
  | false=>rfl
  | true=>
   have:ltS a b=false:=by rw [Jb5,decide_eq_true_iff] at h; rw [Jb5,decide_eq_false_iff_not]; omega
   simp [this]
theorem Jm4(L:List Jg)(x:Jg)(hL:Asc L)(h:L.length<=1000000):Is (It L x) fun M=>Asc M/\(∀ y,y∈M↔y∈L\/y=x)/\M.length<=L.length+1:=by
 unfold It;refine Is.onInl (θ:=fun o=>match o with|.inl r=>∃ i:Nat,r.2=(i:Int)/\i<=L.length/\r.1=L.take i/\(∀ y∈L.take i,ltS y x=true)/\(∀ y,L[i]? = some y->ltS y x=false)|.inr _=>False) ?_ ?_ (fun b hb=>hb.elim)
 ·refine Is.loop (mk:=fun (i:Nat) (m:List Jg)=>((i:Int),m)) L.length (fun i m=>m=L.take i/\∀ y∈L.take i,ltS y x=true) [] ⟨rfl,fun y hy=>by simp at hy⟩ ?_ ?_
  ·rintro i m hi ⟨rfl,hI⟩;unfold Lu;obtain ⟨y,hy⟩:∃ y,L[i]? = some y:=⟨_,aB hi⟩
   have e0:decide ((i:Int)<((L.length:Nat):Int))=true:=decide_eq_true oG;simp only [Vc hy,e0,cond_true,aA];refine Is.bind (φ:=fun b=>b=ltS y x) ?_ fun b hb=>?_
   ·rw [Jb5]
    by_cases h1:y.El<x.El
    ·simp only [h1,decide_true,cond_true,true_or]; exact Is.val rfl
    ·by_cases h2:y.El=x.El
     ·simp only [h2,Int.lt_irrefl,decide_false,decide_true,cond_true,cond_false,aA,false_or,true_and]; exact Is.val rfl
     ·simp only [h1,h2,decide_false,cond_false,aA,false_or,false_and]; exact Is.val rfl
   ·subst hb;refine Is.cond (fun hc=>?_) (fun hc=>Is.val ⟨i,rfl,by omega,rfl,hI,fun z hz=>?_⟩)
    ·refine Is.bind (Is.app ?_) fun M hM=>?_
     ·simp only [aT,aE,aF,Js,Enc.b]; omega
     ·subst hM;refine Is.val ⟨_,by rw [Zi oG],by rw [Vp hy],fun z hz=>?_⟩;rw [Vp hy] at hz;rcases aY.1 hz with hz|hz
      ·exact hI z hz
      ·simp at hz; subst hz; exact hc
    ·rw [hy] at hz; cases hz; exact hc
  ·rintro m ⟨rfl,hI⟩;unfold Lu;have e0:decide (((L.length:Nat):Int)<((L.length:Nat):Int))=false:=decide_eq_false oG;simp only [e0,cond_false,aA];exact Is.val ⟨L.length,rfl,aJ _,rfl,hI,fun y hy=>by simp at hy⟩
 ·rintro ⟨m,k⟩ ⟨i,hk,hi,hm,hI,hn⟩;simp only at hk hm;subst hk hm;refine Is.onInl (θ:=fun o=>∃ M,o=.inl M/\Asc (M++L.drop i)/\(∀ y,y∈M++L.drop i↔y∈L\/y=x)/\M.length<=i+1) ?_ ?_ (fun b hb=>by obtain ⟨M,hM,_⟩:=hb; cases hM)
  ·have hsplit:L.take i++L.drop i=L:=bB i L;have hmem:∀ y,y∈L.take i++L.drop i↔y∈L:=fun y=>by rw [hsplit]
   have hL':=hL;unfold Asc at hL';rw [<- hsplit,aZ] at hL';refine Is.bind (φ:=fun b=>b=decide (L[i]? ≠ some x)) ?_ fun b hb=>?_
   ·refine Is.cond (fun hc=>Is.val ?_) (fun hc=>?_)
    ·have:i=L.length:=by have:=of_decide_eq_true hc; omega
     subst this; simp
    ·have:i<L.length:=by have:=of_decide_eq_false hc; omega
     refine Is.bind (Is.ixn this) fun y hy=>Is.val ?_;rw [hy,Jtx]
     by_cases e:y=x <;> simp [e]
   subst hb
   by_cases e:L[i]? = some x
   ·simp only [e,ne_eq,not_true,decide_false,cond_false];refine Is.val ⟨L.take i,rfl,by rw [hsplit]; exact hL,fun y=>?_,by simp; omega⟩;rw [hmem];exact ⟨.inl,fun q=>q.elim id fun q=>by subst q; exact aC e⟩
   ·simp only [e,ne_eq,not_false_eq_true,decide_true,cond_true];refine Is.bind (Is.app ?_) fun M hM=>?_
    ·simp only [aT,aE,aF,Js,Enc.b]; omega
    ·subst hM;refine Is.val ⟨_,rfl, ?_,fun y=>?_,by simp; omega⟩
     ·have hxd:∀ y∈L.drop i,ltS x y=true:=by
       intro y hy;cases hd:L[i]? with
       | none=>
        have:L.length<=i:=by simpa using hd
        rw [cZ this] at hy; cases hy
       | some z=>
        have hi':=Qs hd;have ez:L[i]=z:=by rw [aB hi'] at hd; exact cY hd
        have hxz:ltS x z=true:=by
         rcases Ju8 x z (hn z hd) with q|q
         ·exact absurd (q▸hd) e
         ·exact q
        rw [dD hi',ez] at hy;have hp:=hL'.2.1;rw [dD hi',ez,cR] at hp;rcases bD.1 hy with q|q
        ·subst q; exact hxz
        ·exact Jt8 x z y hxz (hp.1 y q)
      unfold Asc;rw [bC,aZ];refine ⟨hL'.1, ?_,fun a ha b hb=>?_⟩
      ·rw [List.singleton_append,cR];exact ⟨hxd,hL'.2.1⟩
      ·rcases aY.1 hb with q|q
       ·simp at q; subst q; exact hI a ha
       ·exact hL'.2.2 a ha b q
     ·rw [<- hmem];simp only [aY,cA];constructor
      ·rintro ((q|q)|q)
       ·exact .inl (.inl q)
       ·exact .inr q
       ·exact .inl (.inr q)
      ·rintro ((q|q)|q)
       ·exact .inl (.inl q)
       ·exact .inr q
       ·exact .inl (.inr q)
  ·rintro M ⟨M',hM',hA,hm,hl⟩;cases hM';rw [Kjq hi];refine Is.bind (Is.eq rfl) fun y hy=>?_;subst hy;refine Is.bind (Is.app ?_) fun M' hM'=>?_
   ·simp only [cI,Js,Enc.b]; omega
   ·subst hM';refine Is.val ⟨hA,hm, ?_⟩;simp only [aH,cI]; omega
theorem Jcq(l:Ja)(way:List Jb)(h:way.length<=1000000):Bq l way=some (Jm9 l way):=by
 unfold Bq;have:Is (Jp (Ce l way) (0,[])) fun o=>o=.inl (Jm9 l way):=by
  refine Is.loop (mk:=fun (i:Nat) (m:List Jg)=>((i:Int),m)) way.length (fun i m=>Asc m/\(∀ x,x∈m↔x∈Jrs l (way.take i))/\m.length<=i) [] ⟨List.Pairwise.nil,fun x=>by simp [Jrs],aJ _⟩ ?_ ?_
  ·rintro i m hi ⟨hA,hm,hl⟩;unfold Ce;refine Is.cond (fun _=>?_) (fun hb=>by simp at hb; omega);refine Is.onInl (θ:=fun o=>match o with|.inl m=>Asc m/\(∀ x,x∈m↔x∈Jrs l (way.take (i+1)))/\m.length<=i+1|.inr _=>False) ?_ ?_ (fun b hb=>hb.elim)
   ·refine Is.bind (Is.ixn hi) fun s hs=>?_;rw [Jia,Vp hs,Kde];refine Is.bind (Is.eq rfl) fun p hp=>?_;subst hp;unfold Kax;cases (Jem l s).2 && !decide ((Jem l s).1=0) with
    | false=>exact Is.val ⟨hA,fun x=>by simpa using hm x,by omega⟩
    | true=>
     refine Is.bind (Is.ixn hi) fun s' hs'=>?_;rw [hs] at hs'; cases hs';refine Is.bind (Jm4 m _ hA oG) fun M hM=>Is.val ⟨hM.1,fun x=>?_,by have:=hM.2.2; omega⟩;rw [hM.2.1,hm]; simp
   ·rintro v hv;exact Is.val ⟨v,by rw [Zi oG],hv⟩
  ·rintro m ⟨hA,hm,-⟩;unfold Ce;refine Is.cond (fun hb=>by simp at hb) (fun _=>Is.val ?_);rw [aR] at hm;rw [Asc.one hA (Kez l way) fun x=>by rw [hm,Kfd]]
 obtain ⟨o,h1,rfl⟩:=this;simp [h1,onInl,Vm]
theorem Vo.apart{l:Ja}{way:List Jb}(h:Vo l way){i k:Nat}{s t:Jb}(hs:way[i]? = some s)(ht:way[k]? = some t)(e:s.El=t.El):i=k:=by
 have key:∀ {i k:Nat} {s t:Jb},way[i]? = some s->way[k]? = some t->s.El=t.El->¬ i<k:=by
  intro i k s t hs ht e hik;obtain ⟨t',h1,_,h3,_⟩:=h.2.2 k (Qs ht);rw [ht] at h1; cases h1;exact h3 i s hik hs e
 have h1:=key hs ht e;have h2:=key ht hs e.symm;omega
theorem Jtp{α:Type}[DecidableEq α]:∀ {a b:List α},a.Nodup->(∀ x∈a,x∈b)->a.length<=b.length
 | [],_,_,_=>dO _
 | x::r,b,ha,h=>by
  rw [List.nodup_cons] at ha;have hx:=h x List.mem_cons_self;have:=Jtp (b:=b.erase x) ha.2 fun y hy=>(List.mem_erase_of_ne (fun e:y=x=>ha.1 (e▸hy))).2 (h y (eA _ hy));rw [List.length_erase_of_mem hx] at this;have hp:=dN hx;simp only [aE]; omega
def okB(i:Nat)(c:Nat):Prop:=(97<=c/\c<=122)\/(((48<=c/\c<=57)\/c=95)/\i≠0)
def Jfc(s:ByteArray):Prop:=1<=s.size/\s.size<=12/\∀ i (h:i<s.size),okB i (s[i]'h).toNat
def Hj(l:Ja):Prop:=1<=l.Elements.length/\l.Elements.length<=32/\1<=l.Sections.length/\l.Sections.length<=24/\l.Signals.length<=20/\l.Balises.length<=24
def Je1(l:Ja):Prop:=Jfc l.Name/\(∀ s∈l.Sections,Jfc s)/\(∀ s∈l.Elements.map (·.Name),Jfc s)/\(∀ s∈l.Signals.map (·.Name),Jfc s)
def Jx1(l:Ja):Prop:=l.Sections.Nodup/\(l.Elements.map (·.Name)).Nodup/\(l.Signals.map (·.Name)).Nodup
def Jdl(l:Ja)(x:Jt):Prop :=
 (1<=x.Kind/\x.Kind<=3)/\(500<=x.Length/\x.Length<=1000000)/\(-50<=x.Grade/\x.Grade<=50)/\(100<=x.Speed/\x.Speed<=10000)/\(0<=x.Section/\x.Section<(l.Sections.length:Nat)) /\
  (x.Kind=2->100<=x.Slow/\x.Slow<=x.Speed)/\(x.Kind≠2->x.Slow=0)
def Kli(l:Ja):Prop:=∀ s,s<l.Sections.length->∃ x∈l.Elements,x.Section=(s:Nat)
def Jmx(l:Ja):Prop:=(∀ x∈l.Elements,Jdl l x)/\Kli l
def Jf9(l:Ja):Prop:=∀ j∈l.Joints,exS l j.A=true/\exS l j.B=true/\j.A≠j.B
def Jv4(l:Ja):Prop:=∀ s∈l.Signals,exS l s.At=true/\0<=s.Overlap/\s.Overlap<=1000000
def Jz8(l:Ja)(i:Int):Int:=bif Um l i then ((l.Elements[i.toNat]?).map (·.Section)).getD (-1) else -1
def Jvj(l:Ja):Prop:=∀ s∈l.Signals,(Ky l s.At).2=true/\Jz8 l (Ky l s.At).1.El≠Jz8 l s.At.El
def Jdq(l:Ja)(i:Int):Int:=((l.Elements[i.toNat]?).map (·.Length)).getD 0
def Kac(l:Ja):Prop:=∀ b∈l.Balises,1<=b.Id/\b.Id<=1073741824/\Um l b.El=true/\0<=b.Offset/\b.Offset<=Jdq l b.El
open Classical in
noncomputable def chk(l:Ja):Int :=
 if ¬ Hj l then 2 else if ¬ Je1 l then 3 else if ¬ Jx1 l then 8 else if ¬ Jmx l then 1 else if ¬ Jf9 l then 1 else if ¬ (Ri l.Joints).Nodup then 8 else
 if ¬ Jv4 l then 1 else if ¬ (l.Signals.map (·.At)).Nodup then 8 else if ¬ Jvj l then 14 else if ¬ Kac l then 1 else if ¬ (l.Balises.map (·.Id)).Nodup then 8 else 0
theorem Gq{b x y:Bool}:(bif b then some x else some y)=some (bif b then x else y):=by cases b <;> rfl
theorem Jz0(a b c:Int):Qe a b c=some (decide (b<=a/\a<=c)):=by simp [Qe]
theorem Jfs(s:ByteArray)(h:s.size<=1048576):Is (Ix s) fun b=>b=true↔Jfc s:=by
 unfold Ix;refine Is.onInl (θ:=fun o=>match o with|.inl _=>∀ k (hk:k<s.size),okB k (s[k]'hk).toNat|.inr b=>b=false/\¬ Jfc s) ?_ (fun _ hv=>Is.val ?_) (fun b hb=>show b=true↔Jfc s from ?_)
 ·refine Is.loop (mk:=fun (i:Nat) (_:Unit)=>(i:Int)) s.size (fun i _=>∀ k (hk:k<s.size),k<i->okB k (s[k]'hk).toNat) () (fun k hk hi=>by omega) ?_ ?_
  ·rintro i m hi hI;unfold Ry;refine Is.inb hi ?_;obtain ⟨c,hc,rfl⟩:=Is.six hi;simp only [hc,aA,Gq,dF,bK];refine Is.ite (p:=¬ okB i (s[i]'hi).toNat) (by simp [okB]; omega) (fun hn=>Is.val ⟨rfl,fun hN=>hn (hN.2.2 i hi)⟩) (fun hn=>Is.val ⟨(),by rw [Zi oG],fun k hk hki=>?_⟩)
   by_cases e:k=i
   ·subst e; exact bA.1 hn
   ·exact hI k hk oG
  ·rintro m hI;unfold Ry;exact Is.oub (Is.val fun k hk=>hI k hk hk)
 ·have hv:∀ k (hk:k<s.size),okB k (s[k]'hk).toNat:=hv;simp only [aI,decide_eq_true_eq,Jfc];constructor
  ·rintro ⟨h1,h2⟩; exact ⟨by omega,by omega,hv⟩
  ·rintro ⟨h1,h2,_⟩; exact ⟨by omega,by omega⟩
 ·have hb:b=false/\¬ Jfc s:=hb;rw [hb.1];exact ⟨fun e=>absurd e bI,fun e=>absurd e hb.2⟩
instance (priority:=1) endDec:DecidableEq Jf:=fun x y=>decidable_of_iff _ (Pm x y)
theorem Jvc(l:Ja)(x:Jt)(h:l.Sections.length<=1048576) :
  (Jdl l x↔((((1<=x.Kind/\x.Kind<=3)/\(500<=x.Length/\x.Length<=1000000))/\(-50<=x.Grade/\x.Grade<=50))/\(100<=x.Speed/\x.Speed<=10000))/\(0<=x.Section/\x.Section<=w64 (((l.Sections.length:Nat):Int) - 1)) /\
   ¬ ((x.Kind=2/\¬ (100<=x.Slow/\x.Slow<=x.Speed))\/(x.Kind≠2/\x.Slow≠0))):=by
 rw [Qt oG oG];unfold Jdl
 by_cases h2:x.Kind=2 <;> simp [h2] <;> omega
theorem Kdo{l:Ja}(h:Sm l):Is (Ze l) fun b=>b=true↔∀ x∈l.Elements,Jdl l x:=by
 unfold Ze;have g1:=h.sec; have g2:=h.el;refine Is.all (L:=l.Elements) (fun _ x=>Jdl l x) () oG (fun i x hx hi _=>?_) ?_ (fun hn=>?_)
 ·unfold Zz;have hm:=aC hx;refine Is.inb hi (Is.at hx ?_);simp only [Jz0,aA,Gq,bK,dF];have e:=Jvc l x g1;refine Is.ite (p:=¬ ((((1<=x.Kind/\x.Kind<=3)/\(500<=x.Length/\x.Length<=1000000))/\(-50<=x.Grade/\x.Grade<=50))/\(100<=x.Speed/\x.Speed<=10000))\/¬ (0<=x.Section/\x.Section<=w64 (((l.Sections.length:Nat):Int) - 1)))
   (by simp only [bP,bL,decide_eq_false_iff_not]; omega) (fun hb=>Is.val ?_) (fun hb=>?_)
  ·refine iff_of_false bI fun q=>?_;have:=e.1 (q x hm); omega
  ·refine Is.ite (p:=(x.Kind=2/\¬ (100<=x.Slow/\x.Slow<=x.Speed))\/(x.Kind≠2/\x.Slow≠0)) (by simp only [bP,aI,bL,decide_eq_false_iff_not,decide_eq_true_eq,ne_eq]) (fun hc=>Is.val ?_) (fun hc=>Is.val ⟨rfl, ?_⟩)
   ·refine iff_of_false bI fun q=>?_;exact (e.1 (q x hm)).2.2 hc
   ·exact e.2 ⟨by omega,by omega,hc⟩
 ·simp [Zz]
 ·exact Is.val (iff_of_true rfl (Va.1 hn))
def Jg0(s:Int)(L:List Jt):Nat->List Int
 | 0=>[]
 | n+1=>Jg0 s L n++(match L[n]? with|some x=>if x.Section=s then [(n:Int)] else []|none=>[])
theorem Jqn(s:Int)(L:List Jt):∀ n,(Jg0 s L n).length<=n
 | 0=>aJ _
 | n+1=>by
  have ih:=Jqn s L n;simp only [Jg0,aH];split
  ·split <;> simp <;> omega
  ·simp; omega
theorem Jo9{s:Int}{L:List Jt}{k:Int}:∀ {n},k∈Jg0 s L n↔∃ i x,i<n/\L[i]? = some x/\x.Section=s/\k=(i:Nat)
 | 0=>by simp [Jg0]
 | n+1=>by
  simp only [Jg0,aY,Jo9 (n:=n)];constructor
  ·rintro (⟨i,x,h1,h2⟩|h)
   ·exact ⟨i,x,by omega,h2⟩
   ·split at h
    ·rename_i x hx;split at h
     ·rename_i hs;exact ⟨n,x,by omega,hx,hs,by simpa using h⟩
     ·cases h
    ·cases h
  ·rintro ⟨i,x,h1,h2,h3,h4⟩
   by_cases e:i=n
   ·subst e
    right
    rw [h2];simp [h3,h4]
   ·exact .inl ⟨i,x,by omega,h2,h3,h4⟩
theorem Kdx{s:Int}{L:List Jt}:(Jg0 s L L.length).length=0↔¬ ∃ x∈L,x.Section=s:=by
 rw [List.length_eq_zero_iff,List.eq_nil_iff_forall_not_mem];constructor
 ·rintro h ⟨x,hx,e⟩;obtain ⟨i,hi⟩:=aS hx;exact h i (Jo9.2 ⟨i,x,Qs hi,hi,e,rfl⟩)
 ·rintro h k hk;obtain ⟨i,x,_,h2,h3,_⟩:=Jo9.1 hk;exact h ⟨x,aC h2,h3⟩
def Jag(l:Ja)(s:Int):List Int:=if 0<=s/\s<(l.Sections.length:Nat) then Jg0 s l.Elements l.Elements.length else []
theorem Kag{l:Ja}(h:l.Elements.length<=1048576)(s:Int):Bx l s=some (Jag l s):=by
 suffices hs:Is (Bx l s) fun r=>r=Jag l s by
  obtain ⟨r,h1,h2⟩:=hs; rw [h1,h2]
 unfold Bx;simp only [Gq,aA,bK];refine Is.ite (p:=¬ (0<=s/\s<(l.Sections.length:Nat))) (by simp; omega) (fun hb=>Is.val (by rw [Jag,if_neg hb])) (fun hb=>?_);rw [Jag,if_pos (bA.1 hb)];refine Is.fold (L:=l.Elements) (mk:=fun i m=>(i,m)) (fun i m=>m=Jg0 s l.Elements i) [] oG rfl (fun i x m hx hi hI=>?_) (fun m hI=>?_)
 ·subst hI;unfold Fj;refine Is.inb hi ?_;refine Is.onInl (θ:=fun o=>o=.inl (Jg0 s l.Elements (i+1))) (Is.at hx (Is.ite Km (fun hc=>?_) (fun hc=>Is.val ?_))) (fun v hv=>?_) (fun b hb=>by cases hb)
  ·have:=Jqn s l.Elements i;refine Is.bind (Is.app (by simp only [aE,aF,Js,Enc.b]; omega)) fun M hM=>Is.val ?_;rw [hM]; simp [Jg0,hx,hc]
  ·simp [Jg0,hx,hc]
  ·cases hv; exact Is.val ⟨_,rfl,rfl⟩
 ·subst hI;unfold Fj;exact Is.oub (Is.val (Is.val rfl))
theorem Jlg{l:Ja}(h:l.Elements.length<=1048576)(s:Int):Cw l s=some (Jag l s):=by
 suffices hs:Is (Cw l s) fun r=>r=Jag l s by
  obtain ⟨r,h1,h2⟩:=hs; rw [h1,h2]
 unfold Cw;refine Is.fold (L:=l.Elements) (mk:=fun i m=>(i,m)) (fun i m=>m=if 0<=s/\s<(l.Sections.length:Nat) then Jg0 s l.Elements i else []) [] oG (by simp [Jg0]) (fun i x m hx hi hI=>?_) (fun m hI=>?_)
 ·unfold Hs;refine Is.inb hi ?_;refine Is.onInl (θ:=fun o=>o=.inl (if 0<=s/\s<(l.Sections.length:Nat) then Jg0 s l.Elements (i+1) else [])) (Is.at hx ?_) (fun v hv=>?_) (fun b hb=>by cases hb)
  ·simp only [Gq,aA,dF];refine Is.ite (p:=x.Section=s/\0<=s/\s<(l.Sections.length:Nat)) (by simp; omega) (fun hc=>?_) (fun hc=>Is.val ?_)
   ·rw [if_pos hc.2] at hI ⊢;have:=Jqn s l.Elements i;refine Is.bind (Is.app (by subst hI; simp only [aE,aF,Js,Enc.b]; omega)) fun M hM=>Is.val ?_;rw [hM,hI]; simp [Jg0,hx,hc.1]
   ·subst hI
    by_cases hr:0<=s/\s<(l.Sections.length:Nat)
    ·have:¬ x.Section=s:=fun e=>hc ⟨e,hr⟩;rw [if_pos hr,if_pos hr]; simp [Jg0,hx,this]
    ·rw [if_neg hr,if_neg hr]
  ·cases hv; exact Is.val ⟨_,rfl,rfl⟩
 ·unfold Hs;exact Is.oub (Is.val (Is.val hI))
theorem Jtb{l:Ja}{s:Nat}(h:s<l.Sections.length):(((Jag l (s:Int)).length:Nat):Int)=0↔¬ ∃ x∈l.Elements,x.Section=(s:Nat):=by
 rw [Jag,if_pos oG];rw [<- Kdx]; omega
theorem Kif(e:Jf):Kd e e=true:=(Pm e e).2 rfl
theorem Jxj{e f:Jf}(h:e≠f):Kd e f=false:=by
 cases q:Kd e f
 ·rfl
 ·exact absurd ((Pm e f).1 q) h
def Jcn(L:List Kn)(e:Jf):Int:=match L.findIdx? fun s=>Kd s.At e with|some i=>(i:Nat)|none=> -1
theorem Jr0{L:List Kn}{e:Jf}{i:Nat}{x:Kn}(hx:L[i]? = some x)(hi:x.At=e)(hp:∀ j y,j<i->L[j]? = some y->y.At≠e):Jcn L e=(i:Nat):=by
 have:L.findIdx? (fun s=>Kd s.At e)=some i:=by
  obtain ⟨h1,h2⟩:=aG.1 hx;rw [eE];refine ⟨h1,by rw [h2,hi]; exact Kif e,fun j hj=>?_⟩;rw [Jxj (hp j L[j] hj (aB oG))]; simp
 rw [Jcn,this]
theorem Jsq{L:List Kn}{e:Jf}(h:∀ s∈L,s.At≠e):Jcn L e = -1:=by
 have:L.findIdx? (fun s=>Kd s.At e)=none:=by
  rw [List.findIdx?_eq_none_iff];exact fun s hs=>Jxj (h s hs)
 rw [Jcn,this]
theorem Jyk{α:Type}(L:List α)(eqb:α->α->Bool)(heq:∀ x y,eqb x y=true↔x=y)(hL:L.length<=4194304){s1:Int->Int->Option (Int⊕(Unit⊕(Int⊕(Unit⊕Bool))))}{s0:Int->Option (Int⊕(Unit⊕Bool))}(h1:∀ i k,s1 i k=bif decide (k<i) then ((ixO L i).bind fun x=>(ixO L k).bind fun y=>bif eqb x y then some (.inr (.inr (.inr (.inr true)))) else some (.inl (w64 (k+1)))) else some (.inr (.inl ())))(h0:∀ i,s0 i=bif decide (i<((L.length:Nat):Int)) then onInl (Jp (s1 i) 0) (fun _=>some (.inl (w64 (i+1)))) else some (.inr (.inl ()))) :
  Is (onInl (Jp s0 0) fun _=>some false) fun b=>b=true↔¬ L.Nodup:=by
 refine Is.all (L:=L) (fun i x=>∀ j y,j<i->L[j]? = some y->y≠x) () oG (fun i x hx hi _=>?_) ?_ (fun h=>Is.val ?_)
 ·rw [h0];refine Is.inb hi ?_;have hlen:(L.take i).length=i:=by rw [aT]; omega
  refine Is.all (L:=L.take i) (fun _ y=>y≠x) () oG (fun k y hy hk _=>?_) ?_ (fun hn=>Is.val ⟨rfl,fun j y hj hy=>?_⟩)
  ·rw [h1];rw [hlen] at hk;rw [bS,if_pos hk] at hy;refine Is.inb hk (Is.at hx (Is.at hy (Is.ite (heq x y) (fun hc=>Is.val ?_) (fun hc=>Is.val ⟨rfl,fun e=>hc e.symm⟩))));refine iff_of_true rfl fun hn=>?_;obtain ⟨g1,g2⟩:=aG.1 hx;obtain ⟨g3,g4⟩:=aG.1 hy;exact dC.1 hn k i g3 g1 hk (by rw [g2,g4,hc])
  ·rw [h1,hlen]; simp
  ·exact hn j y (by rw [bS,if_pos hj]; exact hy)
 ·rw [h0]; simp
 ·refine iff_of_false bI (fun q=>q ?_);rw [List.Nodup,dC];intro i j hi hj hij;exact h j L[j] (aB hj) i L[i] hij (aB hi)
theorem Jal(L:List ByteArray)(h:L.length<=4194304):Is (Gt L) fun b=>b=true↔¬ L.Nodup :=
 Jyk L (fun x y=>decide (x=y)) (fun _ _=>Km) h (fun _ _=>rfl) (fun _=>rfl)
theorem Jg4(L:List Jf)(h:L.length<=4194304):Is (Ra L) fun b=>b=true↔¬ L.Nodup :=
 Jyk L Kd Pm h (fun _ _=>rfl) (fun _=>rfl)
theorem Jkf(L:List Int)(h:L.length<=4194304):Is (Nq L) fun b=>b=true↔¬ L.Nodup :=
 Jyk L (fun x y=>decide (x=y)) (fun _ _=>Km) h (fun _ _=>rfl) (fun _=>rfl)
theorem Jm2{l:Ja}(h:Sm l):Is (Nd l) fun e=>(¬ Hj l/\e=2)\/(Hj l/\¬ Je1 l/\e=3)\/(Hj l/\Je1 l/\¬ Jx1 l/\e=8)\/(Hj l/\Je1 l/\Jx1 l/\e=0):=by
 unfold Nd;have h1:=h.sec; have h2:=h.el; have h3:=h.sg;simp only [aA,Gq,bK];refine Is.ite (p:=¬ Hj l) (by simp [Hj]; omega) (fun hc=>Is.val (.inl ⟨hc,rfl⟩)) (fun hc=>?_);have hc:Hj l:=bA.1 hc;refine Is.bind (Joy h) fun r hr=>?_;obtain ⟨e0,e1,e2⟩:=hr;rw [e0,e1,e2];refine Is.bind (Is.app (by simp only [aE,aF,Js,Enc.b]; omega)) fun x7 hx7=>?_;subst hx7;refine Is.bind (Is.app (by simp only [aH,aV,aE,aF,Js,Enc.b]; omega)) fun x8 hx8=>?_;subst hx8;refine Is.bind (Is.app (by simp only [aH,aV,aE,aF,Js,Enc.b]; omega)) fun x9 hx9=>?_;have hsz:∀ s∈x9,s.size<=1048576:=by
  subst hx9;intro s hs;simp only [aY,bD,List.not_mem_nil,or_false,bN] at hs;rcases hs with ((rfl|hs)|⟨x,hx,rfl⟩)|⟨x,hx,rfl⟩
  ·exact h.nm
  ·exact h.secn s hs
  ·exact h.eln x hx
  ·exact h.sgn x hx
 have hlen:x9.length<=4194304:=by
  subst hx9;simp only [aH,aV,aE,aF]; omega
 have hN:(∀ s∈x9,Jfc s)↔Je1 l:=by
  subst hx9;simp only [Je1,aY,bD,List.not_mem_nil,or_false];exact ⟨fun q=>⟨q _ (.inl (.inl (.inl rfl))),fun s hs=>q s (.inl (.inl (.inr hs))),fun s hs=>q s (.inl (.inr hs)),fun s hs=>q s (.inr hs)⟩,
   fun ⟨q1,q2,q3,q4⟩ s hs=>hs.elim (fun hs=>hs.elim (fun hs=>hs.elim (fun e=>e▸q1) (q2 s)) (q3 s)) (q4 s)⟩
 clear hx9;refine Is.all (L:=x9) (fun _ s=>Jfc s) () oG (fun i x hx hi _=>?_) ?_ (fun hn=>?_)
 ·unfold Nl;refine Is.inb hi (Is.at hx (Is.bind (Jfs x (hsz x (aC hx))) fun r hr=>?_));exact Is.ifn hr (fun hn=>Is.val (.inr (.inl ⟨hc,fun e=>hn (hN.2 e x (aC hx)),rfl⟩))) (fun hy=>Is.val ⟨rfl,hy⟩)
 ·simp [Nl]
 have hn:Je1 l:=hN.1 (Va.1 hn);refine Is.bind (Jal _ oG) fun r hr=>?_;refine Is.bind (Is.or hr fun _=>Is.bind (Jal _ (by simp only [aV]; omega)) fun b hb=>Is.val hb) fun b hb=>?_;refine Is.bind (Is.or hb fun _=>Is.bind (Jal _ (by simp only [aV]; omega)) fun b hb=>Is.val hb) fun b2 hb2=>?_;refine Is.ite hb2 (fun hd=>Is.val (.inr (.inr (.inl ⟨hc,hn,fun q=>?_,rfl⟩)))) (fun hd=>Is.val (.inr (.inr (.inr ⟨hc,hn, ?_,rfl⟩))))
 ·rcases hd with (hd|hd)|hd
  ·exact hd q.1
  ·exact hd q.2.1
  ·exact hd q.2.2
 ·exact ⟨bA.1 fun q=>hd (.inl (.inl q)),bA.1 fun q=>hd (.inl (.inr q)),bA.1 fun q=>hd (.inr q)⟩
theorem Jna(l:Ja)(x:Jt):Is (Mq l x) fun b=>b=true↔Jdl l x:=by
 unfold Mq;simp only [aA,Gq,bK];refine Is.val ?_;unfold Jdl
 by_cases h2:x.Kind=2
 ·simp [h2,eK]; omega
 ·simp [h2,eK]; omega
theorem Ji1 : ∀ L:List Vk,(Ri L).length=2 * L.length
 | []=>rfl
 | j::L=>by
  have:=Ji1 L;simp only [Ri,dY,aH,aE,aF] at this ⊢;omega
theorem Jip{l:Ja}(h:Sm l):Is (Bt l) fun e=>(¬ Jmx l/\e=1)\/(Jmx l/\¬ Jf9 l/\e=1)\/(Jmx l/\Jf9 l/\¬ (Ri l.Joints).Nodup/\e=8)\/(Jmx l/\Jf9 l/\(Ri l.Joints).Nodup/\e=0):=by
 unfold Bt;have h1:=h.sec; have h2:=h.el; have h3:=h.jo;refine Is.all (L:=l.Elements) (fun _ x=>Jdl l x) () oG (fun i x hx hi _=>?_) ?_ (fun ha=>?_)
 ·unfold Fi;refine Is.inb hi (Is.at hx (Is.bind (Jna l x) fun r hr=>?_));exact Is.ifn hr (fun hn=>Is.val (.inl ⟨fun q=>hn (q.1 x (aC hx)),rfl⟩)) (fun hy=>Is.val ⟨rfl,hy⟩)
 ·simp [Fi]
 refine Is.all (L:=l.Sections) (fun i _=>∃ x∈l.Elements,x.Section=(i:Nat)) () oG (fun i x hx hi _=>?_) ?_ (fun hn=>?_)
 ·unfold Ff;refine Is.inb hi (Is.to (Jlg h.el _) ?_);exact Is.ite (Km.trans (Jtb hi)) (fun hb=>Is.val (.inl ⟨fun q=>hb (q.2 i hi),rfl⟩)) (fun hb=>Is.val ⟨rfl,bA.1 hb⟩)
 ·simp [Ff]
 have hE:Jmx l:=⟨Va.1 ha,fun s hs=>hn s l.Sections[s] (aB hs)⟩
 refine Is.fold (L:=l.Joints) (mk:=fun i m=>(i,m)) (fun i m=>m=Ri (l.Joints.take i)/\∀ j x,j<i->l.Joints[j]? = some x->exS l x.A=true/\exS l x.B=true/\x.A≠x.B) [] oG ⟨rfl,fun j x hj=>by omega⟩ (fun i x m hx hi hI=>?_) (fun m hI=>?_)
 ·unfold Fl;refine Is.inb hi (Is.at hx ?_);simp only [Jfl,aA,Gq,bK];refine Is.ite (p:=¬ (exS l x.A=true/\exS l x.B=true/\x.A≠x.B)) (by simp only [bP,bL,Pm]; cases exS l x.A <;> cases exS l x.B <;> simp) (fun hb=>Is.val (.inr (.inl ⟨hE,fun q=>hb (q x (aC hx)),rfl⟩))) (fun hb=>?_);have hlen:m.length<=2 * i:=by
   rw [hI.1,Ji1,aT]; omega
  refine Is.bind (Is.app (by simp only [aE,aF,Js,Enc.b]; omega)) fun M hM=>?_;subst hM;refine Is.val ⟨_,rfl,by rw [hI.1,Qw hx,Jw8],fun j y hj hy=>?_⟩
  by_cases e:j=i
  ·subst e; rw [hx] at hy; cases hy; exact bA.1 hb
  ·exact hI.2 j y oG hy
 unfold Fl;refine Is.oub (Is.val ?_);obtain ⟨hm,hJ⟩:=hI;rw [aR] at hm;have hJ:Jf9 l:=Va.1 fun i x hx=>hJ i x (Qs hx) hx;subst hm;have hlen:(Ri l.Joints).length<=4194304:=by
  rw [Ji1]; omega
 refine Is.bind (Jg4 _ hlen) fun r hr=>?_;exact Is.ite hr (fun hd=>Is.val (.inr (.inr (.inl ⟨hE,hJ,hd,rfl⟩)))) (fun hd=>Is.val (.inr (.inr (.inr ⟨hE,hJ,bA.1 hd,rfl⟩))))
theorem Jj3{l:Ja}(h:Sm l)(hJ:Jf9 l)(hn:(Ri l.Joints).Nodup):Is (Dg l) fun e=>
  (¬ Jv4 l/\e=1)\/(Jv4 l/\¬ (l.Signals.map (·.At)).Nodup/\e=8)\/(Jv4 l/\(l.Signals.map (·.At)).Nodup/\¬ Jvj l/\e=14)\/(Jv4 l/\(l.Signals.map (·.At)).Nodup/\Jvj l/\e=0):=by
 unfold Dg;have g3:=h.sg; have g4:=h.jo;refine Is.fold (L:=l.Signals) (mk:=fun i m=>(i,m)) (fun i m=>m=(l.Signals.take i).map (·.At)/\∀ j s,j<i->l.Signals[j]? = some s->exS l s.At=true/\0<=s.Overlap/\s.Overlap<=1000000) [] oG ⟨rfl,fun j x hj=>by omega⟩ (fun i x m hx hi hI=>?_) (fun m hI=>?_)
 ·unfold Hm;refine Is.inb hi (Is.at hx ?_);simp only [Jfl,aA];refine Is.ite (p:=¬ (exS l x.At=true/\0<=x.Overlap/\x.Overlap<=1000000)) (by cases exS l x.At <;> simp <;> omega) (fun hb=>Is.val (.inl ⟨fun q=>hb (q x (aC hx)),rfl⟩)) (fun hb=>?_);refine Is.bind (Is.app (by rw [hI.1]; simp only [aV,aT,aE,aF,Js,Enc.b]; omega)) fun M hM=>?_;subst hM;refine Is.val ⟨_,rfl,by rw [hI.1,Qw hx]; simp,fun j y hj hy=>?_⟩
  by_cases e:j=i
  ·subst e; rw [hx] at hy; cases hy; exact bA.1 hb
  ·exact hI.2 j y oG hy
 unfold Hm;refine Is.oub (Is.val ?_);obtain ⟨hm,h1⟩:=hI;rw [aR] at hm;have h1:Jv4 l:=Va.1 fun i x hx=>h1 i x (Qs hx) hx;subst hm;refine Is.bind (Jg4 _ (by simp only [aV]; omega)) fun r hr=>?_;refine Is.ite hr (fun hd=>Is.val (.inr (.inl ⟨h1,hd,rfl⟩))) (fun hd=>?_);have h2:=bA.1 hd;have hJO:Jt0 l:=⟨fun j hj=>⟨(hJ j hj).1,(hJ j hj).2.1⟩,hn⟩
 refine Is.all (L:=l.Signals.map (·.At)) (fun _ e=>(Ky l e).2=true/\Jz8 l (Ky l e).1.El≠Jz8 l e.El) () (by simp only [aV]; omega) (fun i e hx hi _=>?_) ?_ (fun h3=>?_)
 ·unfold Hg;refine Is.inb hi (Is.at hx (Is.to (Vv g4 e) ?_));obtain ⟨s,hs,rfl⟩:=bN.1 (aC hx);refine Is.bind (Is.or (p:=¬ (Ky l s.At).2=true) (q:=Jz8 l (Ky l s.At).1.El=Jz8 l s.At.El) (Jof Iff.rfl) fun hp=>?_) fun b hb=>?_
  ·have hc2:=bA.1 hp;have hf:exS l (Ky l s.At).1=true:=Jvq hJO (e:=s.At) (by rw [<- hc2]);have e1:=Jtw hf;have e2:=Jtw (h1 s hs).1;obtain ⟨x,hx,hx2⟩:=Vj e1;obtain ⟨y,hy,hy2⟩:=Vj e2;rw [hx,hy];refine Is.val ?_;simp [Jz8,e1,e2,hx2,hy2]
  ·refine Is.ite hb (fun hc=>Is.val (.inr (.inr (.inl ⟨h1,h2,fun q=>?_,rfl⟩)))) (fun hc=>Is.val ⟨rfl,bA.1 fun q=>hc (.inl q),fun q=>hc (.inr q)⟩);rcases hc with hc|hc
   ·exact hc (q s hs).1
   ·exact (q s hs).2 hc
 ·simp [Hg]
 ·refine Is.val (.inr (.inr (.inr ⟨h1,h2,fun s hs=>?_,rfl⟩)));exact Va.1 h3 s.At (bN.2 ⟨s,hs,rfl⟩)
theorem Jje{l:Ja}(h:Sm l):Is (Cy l) fun e=>(¬ Kac l/\e=1)\/(Kac l/\¬ (l.Balises.map (·.Id)).Nodup/\e=8)\/(Kac l/\(l.Balises.map (·.Id)).Nodup/\e=0):=by
 unfold Cy;have g3:=h.ba;refine Is.fold (L:=l.Balises) (mk:=fun i m=>(i,m)) (fun i m=>m=(l.Balises.take i).map (·.Id)/\∀ j b,j<i->l.Balises[j]? = some b->1<=b.Id/\b.Id<=1073741824/\Um l b.El=true/\0<=b.Offset/\b.Offset<=Jdq l b.El) [] oG ⟨rfl,fun j x hj=>by omega⟩ (fun i x m hx hi hI=>?_) (fun m hI=>?_)
 ·unfold Hk;refine Is.inb hi (Is.at hx ?_);simp only [aA,Gq,bK];refine Is.bind (Is.or (p:=¬ (1<=x.Id/\x.Id<=1073741824/\Um l x.El=true/\0<=x.Offset)) (q:=¬ x.Offset<=Jdq l x.El) (by simp [Um]; omega) fun hp=>?_) fun b hb=>?_
  ·have hp:=bA.1 hp;obtain ⟨y,h2,h3⟩:=Vj hp.2.2.1;rw [h2];exact Is.val (by simp [Jdq,h3])
  ·refine Is.ite hb (fun hc=>Is.val (.inl ⟨fun q=>?_,rfl⟩)) (fun hc=>?_)
   ·have q1:=q x (aC hx);rcases hc with hc|hc
    ·exact hc ⟨q1.1,q1.2.1,q1.2.2.1,q1.2.2.2.1⟩
    ·exact hc q1.2.2.2.2
   ·refine Is.bind (Is.app (by rw [hI.1]; simp only [aV,aT,aE,aF,Js,Enc.b]; omega)) fun M hM=>?_;subst hM;refine Is.val ⟨_,rfl,by rw [hI.1,Qw hx]; simp,fun j y hj hy=>?_⟩
    by_cases e:j=i
    ·subst e; rw [hx] at hy; cases hy;have q1:1<=x.Id/\x.Id<=1073741824/\Um l x.El=true/\0<=x.Offset:=bA.1 fun q=>hc (.inl q);exact ⟨q1.1,q1.2.1,q1.2.2.1,q1.2.2.2,bA.1 fun q=>hc (.inr q)⟩
    ·exact hI.2 j y oG hy
 unfold Hk;refine Is.oub (Is.val ?_);obtain ⟨hm,h1⟩:=hI;rw [aR] at hm;have h1:Kac l:=Va.1 fun i x hx=>h1 i x (Qs hx) hx;subst hm;refine Is.bind (Jkf _ (by simp only [aV]; omega)) fun r hr=>?_;exact Is.ite hr (fun hd=>Is.val (.inr (.inl ⟨h1,hd,rfl⟩))) (fun hd=>Is.val (.inr (.inr ⟨h1,bA.1 hd,rfl⟩)))
theorem Jng{l:Ja}(h:Sm l):Is (Gr l) fun e=>e=chk l:=by
 unfold Gr;refine Is.bind (Jm2 h) fun e he=>?_;rcases he with ⟨hc,rfl⟩|⟨hc,h1,rfl⟩|⟨hc,h1,h2,rfl⟩|⟨hc,h1,h2,rfl⟩
 ·exact Is.val (by simp [chk,hc])
 ·exact Is.val (by simp [chk,hc,h1])
 ·exact Is.val (by simp [chk,hc,h1,h2])
 show Is ((Bt l).bind _) _;refine Is.bind (Jip h) fun e he=>?_;rcases he with ⟨h3,rfl⟩|⟨h3,h4,rfl⟩|⟨h3,h4,h5,rfl⟩|⟨h3,h4,h5,rfl⟩
 ·exact Is.val (by simp [chk,hc,h1,h2,h3])
 ·exact Is.val (by simp [chk,hc,h1,h2,h3,h4])
 ·exact Is.val (by simp [chk,hc,h1,h2,h3,h4,h5])
 show Is ((Dg l).bind _) _;refine Is.bind (Jj3 h h4 h5) fun e he=>?_;rcases he with ⟨h6,rfl⟩|⟨h6,h7,rfl⟩|⟨h6,h7,h8,rfl⟩|⟨h6,h7,h8,rfl⟩
 ·exact Is.val (by simp [chk,hc,h1,h2,h3,h4,h5,h6])
 ·exact Is.val (by simp [chk,hc,h1,h2,h3,h4,h5,h6,h7])
 ·exact Is.val (by simp [chk,hc,h1,h2,h3,h4,h5,h6,h7,h8])
 show Is ((Cy l).bind _) _;refine Is.bind (Jje h) fun e he=>?_;rcases he with ⟨h9,rfl⟩|⟨h9,h10,rfl⟩|⟨h9,h10,rfl⟩
 ·exact Is.val (by simp [chk,hc,h1,h2,h3,h4,h5,h6,h7,h8,h9])
 ·exact Is.val (by simp [chk,hc,h1,h2,h3,h4,h5,h6,h7,h8,h9,h10])
 ·exact Is.val (by simp [chk,hc,h1,h2,h3,h4,h5,h6,h7,h8,h9,h10])
structure OkL (l:Ja):Prop where
 counts:Hj l
 names:Je1 l
 dist:Jx1 l
 elem:Jmx l
 joint:Jf9 l
 ends:(Ri l.Joints).Nodup
 sig:Jv4 l
 sigd:(l.Signals.map (·.At)).Nodup
 safe:Jvj l
 bal:Kac l
 bald:(l.Balises.map (·.Id)).Nodup
theorem Kd7(l:Ja):chk l=0↔OkL l:=by
 constructor
 ·intro h;unfold chk at h
  by_cases h1:Hj l
  ·by_cases h2:Je1 l
   ·by_cases h3:Jx1 l
    ·by_cases h4:Jmx l
     ·by_cases h5:Jf9 l
      ·by_cases h6:(Ri l.Joints).Nodup
       ·by_cases h7:Jv4 l
        ·by_cases h8:(l.Signals.map (·.At)).Nodup
         ·by_cases h9:Jvj l
          ·by_cases h10:Kac l
           ·by_cases h11:(l.Balises.map (·.Id)).Nodup
            ·exact ⟨h1,h2,h3,h4,h5,h6,h7,h8,h9,h10,h11⟩
            ·simp [h1,h2,h3,h4,h5,h6,h7,h8,h9,h10,h11] at h
           ·simp [h1,h2,h3,h4,h5,h6,h7,h8,h9,h10] at h
          ·simp [h1,h2,h3,h4,h5,h6,h7,h8,h9] at h
         ·simp [h1,h2,h3,h4,h5,h6,h7,h8] at h
        ·simp [h1,h2,h3,h4,h5,h6,h7] at h
       ·simp [h1,h2,h3,h4,h5,h6] at h
      ·simp [h1,h2,h3,h4,h5] at h
     ·simp [h1,h2,h3,h4] at h
    ·simp [h1,h2,h3] at h
   ·simp [h1,h2] at h
  ·simp [h1] at h
 ·rintro ⟨h1,h2,h3,h4,h5,h6,h7,h8,h9,h10,h11⟩;simp [chk,h1,h2,h3,h4,h5,h6,h7,h8,h9,h10,h11]
theorem Jn2{l:Ja}(h:Sm l):Gr l=some (chk l):=by
 obtain ⟨r,h1,rfl⟩:=Jng h; exact h1
def Kha(l:Ja)(way:List Jb):Int:=match way.getLast? with|some s=>lenOf l s|none=>0
def strS(l:Ja)(way:List Jb)(h:Int):Int:=Uf l way.dropLast+h
def Kgx(l:Ja)(way:List Jb):Int:=match way with|s::_=>lenOf l s|[]=>0
section
variable {l:Ja} {len:Int}
end
structure MvR where
 way:List Jb
 head:Int
 left:Int
 ended:Bool
structure OkB (l:Ja) (b:Uv):Prop where
 valid:Vo l b.Steps
 len:1<=b.Length/\b.Length<=1000000
 head:1<=b.Head/\b.Head<=Kha l b.Steps
 str:b.Length<=strS l b.Steps b.Head
 fst:1<b.Steps.length->strS l b.Steps b.Head - Kgx l b.Steps<b.Length
theorem OkL.lens{l:Ja}(hl:OkL l){s:Jb}(h:Um l s.El=true):500<=lenOf l s/\lenOf l s<=1000000:=by
 obtain ⟨x,h1,h2⟩:=Vj h;have:=hl.elem.1 x (aC h2);simp only [lenOf,h,h2,cond_true,bH,eH];exact this.2.1
structure Bd (b:Uv):Prop where
 head:0<=b.Head/\b.Head<=1000000
 len:1<=b.Length/\b.Length<=1000000
def Khh(t:Kt):Prop :=
 (1<=t.Id/\t.Id<=99)/\(1<=t.Length/\t.Length<=50000)/\(1<=t.Speed/\t.Speed<=10000)/\(1<=t.Accel/\t.Accel<=200)/\(1<=t.Service/\t.Service<=200)/\(t.Service<=t.Emergency/\t.Emergency<=200) /\
  (0<=t.Delay/\t.Delay<=5)/\(0<=t.Const/\t.Const<=500)/\(0<=t.Rate/\t.Rate<=100)
open Classical in
noncomputable def Jvl(t:Kt):Int:=if ¬ Jfc t.Name then 3 else if ¬ Khh t then 1 else 0
theorem Kgg{α:Type}{b:Bool}{x y:α}:(bif b then some x else some y)=some (bif b then x else y):=by cases b <;> rfl
theorem Jpu{t:Kt}(h:t.Name.size<=1048576):Gp t=some (Jvl t):=by
 suffices Is (Gp t) fun r=>r=Jvl t by obtain ⟨r,h,rfl⟩:=this; exact h
 unfold Gp;refine (Jfs _ h).bind fun r hr=>Is.ifn hr (fun hn=>Is.val (by unfold Jvl; rw [if_pos hn])) fun hn=>?_;simp only [Zs,aA,Kgg,bK];refine ⟨_,rfl, ?_⟩
 by_cases c1:(1<=t.Id/\t.Id<=99)/\(1<=t.Length/\t.Length<=50000)/\(1<=t.Speed/\t.Speed<=10000)/\(1<=t.Accel/\t.Accel<=200)/\(1<=t.Service/\t.Service<=200)
 ·obtain ⟨⟨a1,a2⟩,⟨a3,a4⟩,⟨a5,a6⟩,⟨a7,a8⟩,a9,a10⟩:=c1
  by_cases c2:(t.Service<=t.Emergency/\t.Emergency<=200)/\(0<=t.Delay/\t.Delay<=5)/\(0<=t.Const/\t.Const<=500)/\(0<=t.Rate/\t.Rate<=100)
  ·have hR:Khh t:=⟨⟨a1,a2⟩,⟨a3,a4⟩,⟨a5,a6⟩,⟨a7,a8⟩,⟨a9,a10⟩,c2⟩
   obtain ⟨⟨b1,b2⟩,⟨b3,b4⟩,⟨b5,b6⟩,b7,b8⟩:=c2;unfold Jvl;rw [if_neg (fun q=>q hn),if_neg (fun q=>q hR)];simp [a1,a2,a3,a4,a5,a6,a7,a8,a9,a10,b1,b2,b3,b4,b5,b6,b7,b8]
  ·have hR:¬ Khh t:=fun q=>c2 q.2.2.2.2.2;unfold Jvl;rw [if_neg (fun q=>q hn),if_pos hR];simp only [a1,a2,a3,a4,a5,a6,a7,a8,a9,a10,decide_true,Bool.and_self,aX,fC,cond_false];rw [cond_eq_ite,if_pos];simp only [bP,bL,dS,decide_eq_false_iff_not];omega
 ·have hR:¬ Khh t:=fun q=>c1 ⟨q.1,q.2.1,q.2.2.1,q.2.2.2.1,q.2.2.2.2.1⟩;unfold Jvl;rw [if_neg (fun q=>q hn),if_pos hR];rw [cond_eq_ite,if_pos];simp only [bP,bL,dS,decide_eq_false_iff_not];omega
theorem Is.wf{S ρ:Type}{step:S->Option (S⊕ρ)}(I:S->Prop)(μ:S->Nat){θ:ρ->Prop}(hs:∀ s,I s->Is (step s) fun o=>match o with|.inl t=>I t/\μ t<μ s|.inr r=>θ r) :
  ∀ (n:Nat) (s:S),μ s<=n->I s->Is (Jp step s) θ:=by
 intro n;induction n with
 | zero=>
  intro s hn hI;obtain ⟨o,h1,h2⟩:=hs s hI;cases o with
  | inl t=>exact absurd h2.2 oG
  | inr r=>exact ⟨r,Qd h1,h2⟩
 | succ n ih=>
  intro s hn hI;obtain ⟨o,h1,h2⟩:=hs s hI;cases o with
  | inl t=>
   obtain ⟨r,h3,h4⟩:=ih t oG h2.1;exact ⟨r,by rw [Vq h1]; exact h3,h4⟩
  | inr r=>exact ⟨r,Qd h1,h2⟩
theorem Jnr{α:Type}{L:List α}{i:Nat}(hi:i<L.length)(hL:L.length<=1048576){f:α->Bool}{q:α->Prop}(hf:∀ y,f y=true↔¬ q y) :
  Is (bif decide (0<(i:Int)) then (ixO L (w64 ((i:Int) - 1))).bind fun y=>some (f y) else some false) fun b=>b=true↔¬ ∀ y,0<i->L[i - 1]? = some y->q y:=by
 by_cases h0:0<i
 ·have hg:L[i - 1]? = some L[i - 1]:=aB oG;rw [decide_eq_true oG,cond_true,Qt oG oG,show (i:Int) - 1=((i - 1:Nat):Int) by omega,Vc hg];simp only [aA];refine Is.val ?_;rw [hf];exact ⟨fun h q=>h (q _ h0 hg),fun h q=>h fun y _ hy=>by rw [hg] at hy; cases hy; exact q⟩
 ·rw [decide_eq_false oG,cond_false];exact Is.val (iff_of_false bI fun h=>h fun y h1=>absurd h1 h0)
theorem Jew{α:Type}{b:Bool}{x y:α}:(bif b then some x else some y)=some (bif b then x else y):=by cases b <;> rfl
theorem Jej{x:Option Bool}:(x.bind fun r=>some r)=x:=by cases x <;> rfl
theorem Jgx{α:Type}{eqf:α->α->Bool}(heq:∀ x y,eqf x y=true↔x=y){L M:List α}(h:L.length<=1048576){step:Int->Option (Int⊕(Unit⊕Bool))}(hs:∀ x3,step x3=bif decide (x3<((L.length:Nat):Int)) then ((ixO L x3).bind fun x6=>(ixO M x3).bind fun x7=>bif (!(eqf x6 x7)) then some (.inr (.inr false)) else some (.inl (w64 (x3+1)))) else some (.inr (.inl ()))) :
  Is (bif (!(decide (((L.length:Nat):Int)=((M.length:Nat):Int)))) then some false else onInl (α:=Unit) (β:=Bool) (Jp step 0) fun _=>some true) fun b=>b=true↔L=M:=by
 refine Is.ifn (p:=L.length=M.length) (by rw [decide_eq_true_iff]; omega) (fun hl=>Is.val (iff_of_false bI fun e=>hl (congrArg _ e))) (fun hl=>?_);refine Is.all (L:=L) (fun i x=>M[i]? = some x) () oG (fun i x hx hi _=>?_) (by rw [hs]; simp) (fun hn=>Is.val (iff_of_true rfl ?_))
 ·rw [hs];have hg:M[i]? = some M[i]:=aB oG;refine Is.inb hi (Is.at hx (Is.at hg ?_));refine Is.ifn (heq _ _) (fun hb=>Is.val (iff_of_false bI fun e=>?_)) (fun hb=>Is.val ⟨rfl,by rw [hg,hb]⟩);subst e; rw [hg] at hx; cases hx; exact hb rfl
 ·apply dB;intro i;cases hx:L[i]? with
  | some x=>exact (hn i x hx).symm
  | none=>exact (bY (by have:=List.getElem?_eq_none_iff.1 hx; omega)).symm
def Jx4(l:List Jd)(i:Nat)(x:Jd):Prop:=(∀ y,0<i->l[i - 1]? = some y->y.At<=x.At)/\∀ y∈l.take i,y.Id≠x.Id
def Kkk(l:List Jd):Prop:=l.length<=24/\∀ i x,l[i]? = some x->Jx4 l i x
theorem Jnb{l:List Jd}(h:l.length<=1048576)(id:Int):Is (Ik l 0 id) fun r=>0<=r↔∃ y∈l,y.Id=id:=by
 unfold Ik;refine Is.all (L:=l) (fun _ x=>¬ x.Id=id) () oG (fun i x hx hi _=>?_) (by simp [Lp]) (fun hn=>Is.val ?_)
 ·unfold Lp;refine Is.inb hi (Is.at hx ?_);refine Is.ite (p:=x.Id=id) Km (fun hb=>Is.val (iff_of_true oG ⟨x,aC hx,hb⟩)) (fun hb=>Is.val ⟨rfl,hb⟩)
 ·refine iff_of_false oG fun ⟨y,hy,e⟩=>?_;exact Va.1 hn y hy e
theorem Jlh(l:List Jd):Is (Fv l) fun b=>b=true↔Kkk l:=by
 unfold Fv;refine Is.ite (p:=24<l.length) (by rw [decide_eq_true_iff]; omega) (fun h=>Is.val (iff_of_false bI fun q=>absurd q.1 oG)) (fun h=>?_);refine Is.all (L:=l) (fun i x=>Jx4 l i x) () oG (fun i x hx hi _=>?_) (by simp [Hd]) (fun hn=>Is.val (iff_of_true rfl ⟨by omega,hn⟩));unfold Hd;refine Is.inb hi (Is.at hx ?_);refine Is.bind (Jnr hi oG (f:=fun y=>decide (x.At<y.At)) (q:=fun y=>y.At<=x.At) fun y=>by simp) fun b hb=>?_;refine Is.bind (Is.or (q:=∃ y∈l.take i,y.Id=x.Id) hb fun _=>?_) fun c hc=>?_
 ·refine Is.to (Jyv oG) ?_;exact (Jnb (by simp; omega) x.Id).bind fun r hr=>Is.dec hr
 ·have e:(¬ (∀ y,0<i->l[i - 1]? = some y->y.At<=x.At)\/∃ y∈l.take i,y.Id=x.Id)↔¬ Jx4 l i x:=by
   unfold Jx4;rw [Classical.not_and_iff_not_or_not];simp
  refine Is.ite (hc.trans e) (fun hn=>Is.val (iff_of_false bI fun q=>hn (q.2 i x hx))) (fun hn=>Is.val ⟨rfl,bA.1 hn⟩)
theorem Jok(l:List Jd):Is (Mm l) fun b=>b=true↔Kkk l:=by
 unfold Mm
 by_cases h:l.length<=24
 ·refine Is.all (L:=l) (fun i x=>Jx4 l i x) () oG (fun i x hx hi _=>?_) (by simp [Da]) (fun hn=>Is.val (by rw [decide_eq_true_iff]; exact iff_of_true oG ⟨h,hn⟩));unfold Da;have e1:decide (((i:Nat):Int)<((l.length:Nat):Int))=true:=decide_eq_true oG;have e2:decide (((l.length:Nat):Int)<=24)=true:=decide_eq_true oG;simp only [e1,e2,cond_true,aA];refine Is.bind (φ:=fun b=>b=true↔¬ ∀ y,0<i->l[i - 1]? = some y->y.At<=x.At) ?_ fun b hb=>Is.ite hb (fun hc=>Is.val (iff_of_false bI fun q=>hc (q.2 i x hx).1)) (fun hc=>?_)
  ·rw [Vc hx];simp only [aA];exact Jnr hi oG (f:=fun y=>decide (x.At<y.At)) (q:=fun y=>y.At<=x.At) fun y=>by simp
  ·have hlt:(l.take i).length=i:=by simp; omega
   refine Is.all (L:=l.take i) (fun _ y=>y.Id≠x.Id) () oG (fun k y hy hk _=>?_) (by simp [Ng,hlt]) (fun hn=>Is.val ⟨rfl,bA.1 hc,Va.1 hn⟩);have hy':l[k]? = some y:=by rw [bS,if_pos oG] at hy; exact hy
   unfold Ng;rw [show decide ((k:Int)<(i:Int))=true from decide_eq_true oG,cond_true,Vc hy',Vc hx];simp only [aA];refine Is.ite (p:=y.Id=x.Id) Km (fun hb=>Is.val (iff_of_false bI fun q=>(q.2 i x hx).2 y (aC hy) hb)) (fun hb=>Is.val ⟨rfl,hb⟩)
 ·have e1:decide ((0:Int)<((l.length:Nat):Int))=true:=decide_eq_true oG;have e2:decide (((l.length:Nat):Int)<=24)=false:=decide_eq_false oG;have:Jp (Da l) 0=some (.inl ()):=Qd (by simp [Da,e1,e2]);rw [this];simp only [onInl,Vm,aA,e2];exact Is.val (iff_of_false bI fun q=>h q.1)
def ltL(x y:Jd):Prop:=x.At<y.At\/(x.At=y.At/\x.Id<y.Id)
instance (x y:Jd):Decidable (ltL x y):=by unfold ltL; infer_instance
def leL(x y:Jd):Prop:=¬ ltL y x
theorem Kds(x:Jd):leL x x:=by unfold leL ltL; omega
theorem Lw{x y z:Jd}(h:leL x y)(g:leL y z):leL x z:=by unfold leL ltL at *; omega
theorem Jbj{x y:Jd}(h:ltL x y):leL x y:=by unfold leL ltL at *; omega
theorem Jww{x y z:Jd}(h:leL x y)(g:ltL y z):ltL x z:=by unfold leL ltL at *; omega
theorem Juj{x y:Jd}(h:leL x y)(g:leL y x):x=y:=by
 cases x; cases y;unfold leL ltL at *;simp only [Jd.mk.injEq] at *;omega
theorem Jol(a b:Int):Zp a b=some (if a<b then -1 else if b<a then 1 else 0):=by
 unfold Zp Fr;simp only [decide_true,aX,aA,cond_false]
 by_cases h1:a<b
 ·simp [h1]
 ·by_cases h2:b<a <;> simp [h1,h2]
theorem Kmb(a b:Int):Sf [a,b]=some (if a=0 then b else a):=by
 unfold Sf;have i0:ixO [a,b] 0=some a:=rfl;have i1:ixO [a,b] 1=some b:=rfl
 by_cases ha:a=0
 ·subst ha;rw [Vq (s':=(1:Int)) (by simp only [Eu,i0,aA]; rfl)]
  by_cases hb:b=0
  ·subst hb;rw [Vq (s':=(2:Int)) (by simp only [Eu,i1,aA]; rfl),Qd (r:=.inl ()) (by rfl)]
   rfl
  ·rw [Qd (r:=.inr b) (by simp only [Eu,i1,aA,decide_eq_false hb]; rfl)];simp [onInl,Vm]
 ·rw [Qd (r:=.inr a) (by simp only [Eu,i0,aA,decide_eq_false ha]; rfl)];simp [onInl,Vm,ha]
theorem Jto(x y:Jd):∃ r:Int,Ym x y=some r/\decide (r<0)=decide (ltL x y):=by
 unfold Ym;rw [Jol,Jol];simp only [aA,Kmb];refine ⟨_,rfl,decide_eq_decide.2 ?_⟩;unfold ltL
 (repeat' split) <;> omega
section
variable {α:Type}
theorem xix{N i:Nat}(h:i<N):Wd 0 N (i:Int)=some i:=by
 unfold Wd;rw [if_pos oG];simp
theorem xld{D:List α}{N i:Nat}{x:α}(hN:D.length=N)(h:D[i]? = some x):Vd D N i=some x:=by
 unfold Vd;rw [if_pos hN,h]
theorem Jl0(A:List α)(x:α)(B:List α):(A++x::B)[A.length]? = some x:=by simp
theorem Jup(A:List α)(x y:α)(B:List α):(A++x::y::B)[A.length+1]? = some y:=by
 rw [bW oG]; simp
theorem Jv9(A:List α)(x y:α)(B:List α):((A++x::y::B).set (A.length+1) x).set A.length y=A++y::x::B:=by
 rw [dP _ _ oG,cD,dP _ _ oG,fD]; rfl
theorem Kdc(A:List α)(x y:α)(B:List α):((A++x::y::B).set A.length y).set (A.length+1) x=A++y::x::B:=by
 rw [dP _ _ oG,fD,dP _ _ oG,cD]; rfl
end
theorem Khc{i:Nat}(h:i<1048577):w64 (((i+1:Nat):Int) - 1)=(i:Int):=by rw [Qt oG oG]; omega
theorem Kae{i:Nat}(h:i<1048577):w64 ((i:Int)+1)=((i+1:Nat):Int):=Zi oG
theorem Jzz{i j:Nat}(h:i<1048577)(h2:j<1048577):w64 ((i:Int)+(j:Int))=((i+j:Nat):Int):=by rw [Qt oG oG]; omega
theorem Jhu{i j:Nat}(h:i<4194304)(h2:j<=i):w64 ((i:Int) - (j:Int))=((i - j:Nat):Int):=by rw [Qt oG oG]; omega
theorem Kgp{i j:Nat}(h:i<1048577)(h2:j<1048577):w64 ((IntKind.u64.wrap (w64 ((i:Int)+(j:Int)))).fdiv 2)=(((i+j) / 2:Nat):Int):=by
 rw [Jzz h h2,IntWalk.u64_in _ ⟨by omega,by omega⟩];rw [Int.fdiv_eq_ediv_of_nonneg _ oG,Qt oG oG];omega
theorem Rv(a:List Jd):(a.map cellsOf).length=a.length:=aV _
theorem Kgo(a0 P Q:List Jd)(hL:a0.length<=1048576):∀ (n:Nat) (S1 S2:List Jd) (x:Jd),S1.length=n->(P++S1++x::(S2++Q)).length=a0.length->(S1++S2).Pairwise leL->(∀ y∈S2,ltL x y) ->
  ∃ M,Jp (Kx a0 (P.length:Int)) (((P.length+S1.length:Nat):Int),P++S1++x::(S2++Q))=some (.inl (P++M++Q))/\M.Perm (x::(S1++S2))/\M.Pairwise leL:=by
 intro n;induction n with
 | zero=>
  intro S1 S2 x hn hlen hs hx;have:S1=[]:=aO hn;subst this;refine ⟨x::S2, ?_,List.Perm.refl _, ?_⟩
  ·rw [Qd (r:=.inl (P++[]++x::(S2++Q))) (by
    simp only [Kx,aF,cU,decide_eq_false (show ¬ ((P.length:Int)<(P.length:Int)) by omega),cond_false,aA])]
   simp
  ·rw [cR];exact ⟨fun y hy=>Jbj (hx y hy),by simpa using hs⟩
 | succ n ih=>
  intro S1 S2 x hn hlen hs hx;obtain ⟨S,y,rfl⟩:∃ S y,S1=S++[y]:=by
   rcases List.eq_nil_or_concat S1 with e|⟨S,y,e⟩
   ·subst e; cases hn
   ·exact ⟨S,y,by simpa using e⟩
  have hSn:S.length=n:=by simpa using hn
  have hD:P++(S++[y])++x::(S2++Q)=(P++S)++y::x::(S2++Q):=by simp
  have hlen':((P++S)++y::x::(S2++Q)).length=a0.length:=by rw [<- hD]; exact hlen
  have hA:(P++S).length=P.length+S.length:=by simp
  have hb:P.length+S.length+1<a0.length:=by rw [<- hlen']; simp; omega
  have i1:=xix hb;have i0:=xix (N:=a0.length) (i:=P.length+S.length) oG;have g1:((P++S)++y::x::(S2++Q))[P.length+S.length+1]? = some x:=by rw [<- hA]; exact Jup _ _ _ _
  have g0:((P++S)++y::x::(S2++Q))[P.length+S.length]? = some y:=by rw [<- hA]; exact Jl0 _ _ _
  obtain ⟨r,hr,hd⟩:=Jto x y;have hj:P.length+(S++[y]).length=P.length+S.length+1:=by simp; omega
  rw [hD,hj]
  by_cases hlt:ltL x y
  ·obtain ⟨M,m1,m2,m3⟩:=ih S (y::S2) x hSn (by rw [<- hlen']; simp) (by simpa using hs) (fun z hz=>by
    rcases bD.1 hz with rfl|hz
    ·exact hlt
    ·exact hx z hz)
   refine ⟨M, ?_,m2.trans sG,m3⟩;rw [Vq (s':=(((P.length+S.length:Nat):Int),P++S++x::(y::S2++Q))) ?_]
   ·exact m1
   ·have e1:decide ((P.length:Int)<((P.length+S.length+1:Nat):Int))=true:=decide_eq_true oG;have hsw:=Jv9 (P++S) y x (S2++Q);rw [hA] at hsw;have hl2:(((P++S)++y::x::(S2++Q)).set (P.length+S.length+1) y).length=a0.length:=by rw [cG]; exact hlen'
    have g2:(((P++S)++y::x::(S2++Q)).set (P.length+S.length+1) y)[P.length+S.length]? = some y:=by
     rw [cQ oG]; exact g0
    simp only [Kx,Rv,e1,cond_true,Khc (show P.length+S.length<1048577 by omega),i1,i0,aA,xld hlen' g1,xld hlen' g0,hr,hd,decide_eq_true hlt,xld hl2 g2];rw [hsw]; simp
  ·refine ⟨S++y::x::S2, ?_, ?_, ?_⟩
   ·rw [Qd (r:=.inl ((P++S)++y::x::(S2++Q))) ?_]
    ·simp
    ·have e1:decide ((P.length:Int)<((P.length+S.length+1:Nat):Int))=true:=decide_eq_true oG;simp only [Kx,Rv,e1,cond_true,Khc (show P.length+S.length<1048577 by omega),i1,i0,aA,xld hlen' g1,xld hlen' g0,hr,hd,decide_eq_false hlt,cond_false]
   ·have:(S++y::x::S2).Perm (x::(S++y::S2)):=by
     have:=@eU _ x (S++[y]) S2
     simpa using this
    simpa using this
   ·have hs':(S++y::S2).Pairwise leL:=by simpa using hs
    rw [aZ] at hs' ⊢;obtain ⟨q1,q2,q3⟩:=hs';rw [cR] at q2;refine ⟨q1, ?_,fun u hu v hv=>?_⟩
    ·rw [cR,cR];refine ⟨fun z hz=>?_,fun z hz=>Jbj (hx z hz),q2.2⟩;rcases bD.1 hz with rfl|hz
     ·exact hlt
     ·exact q2.1 z hz
    ·rcases bD.1 hv with rfl|hv
     ·exact q3 u hu _ sG
     ·rcases bD.1 hv with rfl|hv
      ·exact Lw (q3 u hu y sG) hlt
      ·exact q3 u hu v (by simp [hv])
theorem Jq6(a0 P Q:List Jd)(hL:a0.length<=1048576)(b:Nat):∀ (R S:List Jd),S≠[]->b=P.length+S.length+R.length->(P++S++(R++Q)).length=a0.length->S.Pairwise leL ->
  ∃ M,Jp (Kv a0 (P.length:Int) (b:Int)) (((P.length+S.length:Nat):Int),P++S++(R++Q))=some (.inl (P++M++Q))/\M.Perm (S++R)/\M.Pairwise leL:=by
 intro R;induction R with
 | nil=>
  intro S hS hb hlen hs;refine ⟨S, ?_,by simp,hs⟩;rw [Qd (r:=.inl (P++S++([]++Q))) (by
   simp only [Kv,decide_eq_false (show ¬ (((P.length+S.length:Nat):Int)<(b:Int)) by simp at hb; omega),cond_false])]
  simp
 | cons x R ih=>
  intro S hS hb hlen hs;have hlen1:(P++S++x::([]++(R++Q))).length=a0.length:=by rw [<- hlen]; simp
  obtain ⟨M,m1,m2,m3⟩:=Kgo a0 P (R++Q) hL S.length S [] x rfl hlen1 (by simpa using hs) (fun y hy=>by cases hy);have hMl:M.length=S.length+1:=by rw [m2.length_eq]; simp
  have hM:M≠[]:=fun e=>by rw [e] at hMl; simp at hMl
  have hbl:b<=1048576:=by
   simp only [aH,aE] at hlen hb; omega
  obtain ⟨M2,n1,n2,n3⟩:=ih M hM (by rw [hMl]; simp at hb; omega) (by rw [<- hlen]; simp [hMl]; omega) m3;refine ⟨M2, ?_,n2.trans ?_,n3⟩
  ·rw [Vq (s':=(((P.length+M.length:Nat):Int),P++M++(R++Q))) ?_]
   ·exact n1
   ·have e1:decide (((P.length+S.length:Nat):Int)<(b:Int))=true:=decide_eq_true (by simp at hb; omega);simp only [cX] at m1;simp only [Kv,e1,cond_true,bO];rw [m1];simp only [onInl,Vm,aA,Kae (show P.length+S.length<1048577 by simp at hb; omega),hMl]
    rfl
  ·have:(M++R).Perm ((x::(S++[]))++R):=m2.append_right R;refine this.trans ?_;simp only [bE,bO];exact (eU).symm
theorem Jiu(P X Q:List Jd)(hL:(P++X++Q).length<=1048576):∃ M,Kl (P++X++Q) (P.length:Int) ((P.length+X.length:Nat):Int)=some (P++M++Q)/\M.Perm X/\M.Pairwise leL:=by
 unfold Kl;have hb:P.length<1048577:=by simp only [aH] at hL; omega
 rw [Kae hb];cases X with
 | nil=>
  refine ⟨[], ?_,List.Perm.refl _,List.Pairwise.nil⟩;rw [Qd (r:=.inl (P++[]++Q)) (by
   simp only [Kv,aF,decide_eq_false (show ¬ (((P.length+1:Nat):Int)<((P.length+0:Nat):Int)) by omega),cond_false])]
  rfl
 | cons x R=>
  obtain ⟨M,m1,m2,m3⟩:=Jq6 (P++x::R++Q) P Q hL (P.length+(x::R).length) R [x] sG (by simp; omega) sG sG;refine ⟨M, ?_,by simpa using m2,m3⟩;have e:P++x::R++Q=P++[x]++(R++Q):=by simp
  have e2:P.length+[x].length=P.length+1:=rfl;rw [e2] at m1;rw [show (P++x::R++Q)=P++[x]++(R++Q) from e] at m1 ⊢;rw [m1]; rfl
theorem Jqv(a0:List Jd)(hL:a0.length<=1048576)(a b n:Nat):∀ (X Y:List Jd) (A B Q:List Jd) (i:Nat),X.length=Y.length->i+X.length=n->A.length=a+i->A.length+X.length+B.length=b+i->(A++X++B++Y++Q).length=a0.length ->
  Jp (Qc a0 (a:Int) (b:Int) (n:Int)) ((i:Int),A++X++B++Y++Q)=some (.inl (A++Y++B++X++Q)):=by
 intro X;induction X with
 | nil=>
  intro Y A B Q i hxy hi ha hb hlen;have:Y=[]:=aO hxy.symm;subst this;rw [Qd (r:=.inl (A++[]++B++[]++Q)) (by
   simp only [Qc,decide_eq_false (show ¬ ((i:Int)<(n:Int)) by simp at hi; omega),cond_false])]
 | cons x X ih=>
  intro Y A B Q i hxy hi ha hb hlen;cases Y with
  | nil=>cases hxy
  | cons y Y=>
   have hxy':X.length=Y.length:=by simpa using hxy
   simp only [aE] at hi hb;have hlen0:=hlen;simp only [aH,aE] at hlen
   -- the places
   have e0:A++x::X++B++y::Y++Q=A++x::(X++B++y::(Y++Q)):=by simp
   have e1:A++x::X++B++y::Y++Q=(A++x::(X++B))++y::(Y++Q):=by simp
   have hA1:(A++x::(X++B)).length=b+i:=by simp; omega
   have gb:(A++x::X++B++y::Y++Q)[b+i]? = some y:=by rw [e1,<- hA1]; exact Jl0 _ _ _
   have ga:(A++x::X++B++y::Y++Q)[a+i]? = some x:=by rw [e0,<- ha]; exact Jl0 _ _ _
   have s1:(A++x::X++B++y::Y++Q).set (a+i) y=A++y::(X++B++y::(Y++Q)):=by
    rw [e0,<- ha,dP _ _ (aJ _),fD]; rfl
   have s2:(A++y::(X++B++y::(Y++Q))).set (b+i) x=(A++[y])++X++(B++[x])++Y++Q:=by
    have e3:A++y::(X++B++y::(Y++Q))=(A++y::(X++B))++y::(Y++Q):=by simp
    have hA3:(A++y::(X++B)).length=b+i:=by simp; omega
    rw [e3,<- hA3,dP _ _ (aJ _),fD];simp
   have g3:(A++y::(X++B++y::(Y++Q)))[b+i]? = some y:=by
    have e3:A++y::(X++B++y::(Y++Q))=(A++y::(X++B))++y::(Y++Q):=by simp
    have hA3:(A++y::(X++B)).length=b+i:=by simp; omega
    rw [e3,<- hA3]; exact Jl0 _ _ _
   have l1:(A++y::(X++B++y::(Y++Q))).length=a0.length:=by rw [<- hlen0]; simp
   have hstep:Qc a0 (a:Int) (b:Int) (n:Int) ((i:Int),A++x::X++B++y::Y++Q)=some (.inl (((i+1:Nat):Int),(A++[y])++X++(B++[x])++Y++Q)):=by
    simp only [Qc,Rv,decide_eq_true (show (i:Int)<(n:Int) by omega),cond_true,Jzz (show b<1048577 by omega) (show i<1048577 by omega),Jzz (show a<1048577 by omega) (show i<1048577 by omega),
     xix (show b+i<a0.length by omega),xix (show a+i<a0.length by omega),aA,xld hlen0 gb,xld hlen0 ga,s1,xld l1 g3,s2,Kae (show i<1048577 by omega)]
   rw [Vq hstep];have:=ih Y (A++[y]) (B++[x]) Q (i+1) hxy' oG (by simp; omega) (by simp; omega) (by simp; omega);rw [this];simp
theorem Jee(A X B Y Q:List Jd)(hL:(A++X++B++Y++Q).length<=1048576)(hxy:X.length=Y.length) :
  Ki (A++X++B++Y++Q) (A.length:Int) ((A.length+X.length+B.length:Nat):Int) (X.length:Int)=some (A++Y++B++X++Q):=by
 unfold Ki;have:=Jqv (A++X++B++Y++Q) hL A.length (A.length+X.length+B.length) X.length X Y A B Q 0 hxy oG oG oG rfl;rw [show ((0:Nat):Int)=0 from rfl] at this;rw [this]; rfl
theorem Jw9(m:Nat)(hm:m<=1048576):∀ (n:Nat) (U V A Q:List Jd),U.length+V.length<=n->0<U.length->0<V.length->A.length+U.length=m->(A++U++V++Q).length<=1048576 ->
  ∃ (A' U' V' Q':List Jd),Jp (Qo (m:Int)) ((U.length:Int),A++U++V++Q,(V.length:Int))=some (.inl (A'++U'++V'++Q',(U'.length:Int)))/\U'.length=V'.length/\0<U'.length/\A'.length+U'.length=m/\A'++V'++U'++Q'=A++V++U++Q/\(A'++U'++V'++Q').length=(A++U++V++Q).length:=by
 intro n;induction n with
 | zero=>intro U V A Q h h1 h2; omega
 | succ n ih=>
  intro U V A Q h h1 h2 ha hL;have hlen:=hL;simp only [aH] at hlen
  by_cases e:U.length=V.length
  ·refine ⟨A,U,V,Q, ?_,e,h1,ha,rfl,rfl⟩;rw [Qd (r:=.inl (A++U++V++Q,(U.length:Int))) (by
    simp only [Qo,decide_eq_true (show (U.length:Int)=(V.length:Int) by omega),aX,cond_false])]
  ·have en:decide ((U.length:Int)=(V.length:Int))=false:=decide_eq_false oG
   by_cases hlt:V.length<U.length
   · -- the first part of U changes places with V
    have hU:U=U.take V.length++U.drop V.length:=(bB _ _).symm;have t1:(U.take V.length).length=V.length:=by simp; omega
    have t2:(U.drop V.length).length=U.length - V.length:=by simp
    have hsw:=Jee A (U.take V.length) (U.drop V.length) V Q (by rw [bC A,<- hU]; exact hL) t1;rw [bC A,<- hU,t1,t2] at hsw;have e2:A.length+V.length+(U.length - V.length)=m:=by omega
    rw [e2] at hsw;obtain ⟨A',U',V',Q',k1,k2,k3,k4,k5,k6⟩:=ih (U.drop V.length) (U.take V.length) (A++V) Q oG oG oG (by simp; omega) (by simp; omega);rw [t1,t2] at k1;refine ⟨A',U',V',Q', ?_,k2,k3,k4, ?_, ?_⟩
    ·rw [Vq (s':=(((U.length - V.length:Nat):Int),A++V++U.drop V.length++U.take V.length++Q,(V.length:Int))) ?_]
     ·exact k1
     ·have e3:m - U.length=A.length:=by omega
      simp only [Qo,en,cH,cond_true,decide_eq_true (show (V.length:Int)<(U.length:Int) by omega),Jhu (show m<4194304 by omega) (show U.length<=m by omega),e3,hsw,aA,Jhu (show U.length<4194304 by omega) (show V.length<=U.length by omega)]
    ·rw [k5,bC (A++V),bB]
    ·rw [k6]; simp; omega
   · -- U changes places with the last part of V
    have hV:V=V.take (V.length - U.length)++V.drop (V.length - U.length):=(bB _ _).symm;have t1:(V.take (V.length - U.length)).length=V.length - U.length:=by simp
    have t2:(V.drop (V.length - U.length)).length=U.length:=by simp; omega
    have hD:A++U++V++Q=A++U++V.take (V.length - U.length)++V.drop (V.length - U.length)++Q:=by
     rw [bC (A++U) (V.take _),<- hV]
    have hsw:=Jee A U (V.take (V.length - U.length)) (V.drop (V.length - U.length)) Q (by rw [<- hD]; exact hL) t2.symm;rw [<- hD,t1] at hsw;obtain ⟨A',U',V',Q',k1,k2,k3,k4,k5,k6⟩:=ih (V.drop (V.length - U.length)) (V.take (V.length - U.length)) A (U++Q) oG oG oG oG (by simp; omega);rw [t1,t2] at k1;refine ⟨A',U',V',Q', ?_,k2,k3,k4, ?_, ?_⟩
    ·rw [Vq (s':=((U.length:Int),A++V.drop (V.length - U.length)++V.take (V.length - U.length)++(U++Q),((V.length - U.length:Nat):Int))) ?_]
     ·exact k1
     ·have e3:m - U.length=A.length:=by omega
      have e4:w64 ((w64 ((m:Int)+(V.length:Int))) - (U.length:Int))=((A.length+U.length+(V.length - U.length):Nat):Int):=by
       rw [Jzz oG oG,Jhu oG oG]; omega
      simp only [Qo,en,cH,cond_true,decide_eq_false (show ¬ (V.length:Int)<(U.length:Int) by omega),cond_false,Jhu (show m<4194304 by omega) (show U.length<=m by omega),e3,e4,hsw,aA,Jhu (show V.length<4194304 by omega) (show U.length<=V.length by omega)];simp
    ·rw [k5,bC A,<- hV]; simp
    ·rw [k6]; simp; omega
theorem Kdb(A U V Q:List Jd)(hL:(A++U++V++Q).length<=1048576)(h1:0<U.length)(h2:0<V.length) :
  Kq (A++U++V++Q) (A.length:Int) ((A.length+U.length:Nat):Int) ((A.length+U.length+V.length:Nat):Int)=some (A++V++U++Q):=by
 unfold Kq;have hlen:=hL;simp only [aH] at hlen;obtain ⟨A',U',V',Q',k1,k2,k3,k4,k5,k6⟩:=Jw9 (A.length+U.length) oG (U.length+V.length) U V A Q (aJ _) h1 h2 rfl hL;rw [Jhu oG oG,Jhu oG oG,show A.length+U.length - A.length=U.length by omega,show A.length+U.length+V.length - (A.length+U.length)=V.length by omega,k1];have hlen':(A'++U'++V'++Q').length<=1048576:=by rw [k6]; exact hL
 have hsw:=Jee A' U' [] V' Q' (by simpa using hlen') k2;simp only [bE,aF,cU] at hsw;rw [k4] at hsw;simp only [onInl,Vm,aA];rw [Jhu oG oG,show A.length+U.length - U'.length=A'.length by omega,hsw,k5]
 rfl
theorem Jtk{β:Type}{step:Int×Int->Option ((Int×Int)⊕(Int⊕β))}(p:Nat->Prop)[DecidablePred p](lo hi:Nat)(hmono:∀ h k,lo<=h->h<=k->k<hi->p k->p h)(hs:∀ i j:Nat,lo<=i->i<j->j<=hi->step ((i:Int),(j:Int))=some (.inl (if p ((i+j) / 2) then ((((i+j) / 2+1:Nat):Int),(j:Int)) else ((i:Int),(((i+j) / 2:Nat):Int)))))(he:∀ i:Nat,step ((i:Int),(i:Int))=some (.inr (.inl (i:Int)))):lo<=hi->∃ s:Nat,lo<=s/\s<=hi/\Jp step ((lo:Int),(hi:Int))=some (.inl (s:Int))/\(∀ h,lo<=h->h<s->p h)/\∀ h,s<=h->h<hi->¬ p h:=by
 suffices ∀ n i j:Nat,j - i<=n->lo<=i->i<=j->j<=hi->(∀ h,lo<=h->h<i->p h)->(∀ h,j<=h->h<hi->¬ p h)->∃ s:Nat,lo<=s/\s<=hi/\Jp step ((i:Int),(j:Int))=some (.inl (s:Int))/\(∀ h,lo<=h->h<s->p h)/\∀ h,s<=h->h<hi->¬ p h from
  fun hlh=>this (hi - lo) lo hi (aJ _) (aJ _) hlh (aJ _) (fun h h1 h2=>by omega) (fun h h1 h2=>by omega)
 intro n;induction n with
 | zero=>
  intro i j hn h1 h2 h3 h4 h5;have:i=j:=by omega
  subst this;exact ⟨i,h1,h3,Qd (he i),h4,h5⟩
 | succ n ih=>
  intro i j hn h1 h2 h3 h4 h5
  by_cases hij:i=j
  ·subst hij; exact ⟨i,h1,h3,Qd (he i),h4,h5⟩
  ·have hlt:i<j:=by omega
   by_cases hp:p ((i+j) / 2)
   ·obtain ⟨s,k1,k2,k3,k4,k5⟩:=ih ((i+j) / 2+1) j oG oG oG h3 (fun h q1 q2=>hmono h _ q1 oG oG hp) h5;exact ⟨s,k1,k2,by rw [Vq (hs i j h1 hlt h3),if_pos hp]; exact k3,k4,k5⟩
   ·obtain ⟨s,k1,k2,k3,k4,k5⟩:=ih i ((i+j) / 2) oG h1 oG oG h4 (fun h q1 q2 q3=>hp (hmono _ h oG q1 q2 q3));exact ⟨s,k1,k2,by rw [Vq (hs i j h1 hlt h3),if_neg hp]; exact k3,k4,k5⟩
theorem Ki1{i:Nat}(h:i<4194304)(h1:1<=i):w64 ((i:Int) - 1)=((i - 1:Nat):Int):=by rw [Qt oG oG]; omega
theorem Lk{X:List Jd}(hX:X.Pairwise leL){i j:Nat}{u v:Jd}(hij:i<=j)(hu:X[i]? = some u)(hv:X[j]? = some v):leL u v:=by
 obtain ⟨hi,rfl⟩:=aG.1 hu;obtain ⟨hj,rfl⟩:=aG.1 hv
 by_cases e:i=j
 ·subst e; exact Kds _
 ·exact dC.1 hX i j hi hj oG
theorem gL(P L R Q:List Jd){i:Nat}(h:i<L.length):(P++L++R++Q)[P.length+i]? = L[i]?:=by
 rw [bC,bC,bW oG,cD,bM oG]
theorem gR(P L R Q:List Jd){i:Nat}(h:i<R.length):(P++L++R++Q)[P.length+L.length+i]? = R[i]?:=by
 rw [bC (P++L),bW sG,show P.length+L.length+i - (P++L).length=i by simp,bM oG]
theorem Kk2(a0:List Jd)(hL:a0.length<=1048576)(x:Jd)(i:Nat):∀ (R A Q:List Jd),A.length+R.length+1=i->(A++x::(R++Q)).length=a0.length ->
  Jp (Ub a0 (i:Int)) ((A.length:Int),A++x::(R++Q))=some (.inl (A++R++x::Q)):=by
 intro R;induction R with
 | nil=>
  intro A Q hi hlen;have hb:A.length<1048577:=by simp at hlen; omega
  rw [Qd (r:=.inl (A++x::([]++Q))) (by
   simp only [Ub,<- hi,aF,cU,Khc hb,decide_eq_false (show ¬ ((A.length:Int)<(A.length:Int)) by omega),cond_false])]
  simp
 | cons y R ih=>
  intro A Q hi hlen;simp only [aE] at hi;have hlen1:(A++x::y::(R++Q)).length=a0.length:=by rw [<- hlen]; simp
  have hl2:=hlen1;simp only [aH,aE] at hl2;have g1:(A++x::y::(R++Q))[A.length+1]? = some y:=Jup _ _ _ _;have g0:(A++x::y::(R++Q))[A.length]? = some x:=Jl0 _ _ _;have hl3:((A++x::y::(R++Q)).set A.length y).length=a0.length:=by rw [cG]; exact hlen1
  have g2:((A++x::y::(R++Q)).set A.length y)[A.length+1]? = some y:=by rw [cQ oG]; exact g1
  have:=ih (A++[y]) Q (by simp; omega) (by rw [<- hlen]; simp);rw [Vq (s':=(((A++[y]).length:Int),(A++[y])++x::(R++Q))) ?_,this]
  ·simp
  ·simp only [Ub,Rv,Ki1 (show i<4194304 by omega) oG,decide_eq_true (show (A.length:Int)<((i - 1:Nat):Int) by omega),cond_true,Kae (show A.length<1048577 by omega),xix (show A.length+1<a0.length by omega),xix (show A.length<a0.length by omega),bO,aA,xld hlen1 g1,xld hlen1 g0,xld hl3 g2,Kdc];simp
theorem Kkb(a0:List Jd)(hL:a0.length<=1048576)(x:Jd)(A:List Jd):∀ (n:Nat) (L Q:List Jd),L.length=n->(A++L++x::Q).length=a0.length ->
  Jp (Qz a0 (A.length:Int)) (((A.length+L.length:Nat):Int),A++L++x::Q)=some (.inl (A++x::(L++Q))):=by
 intro n;induction n with
 | zero=>
  intro L Q hn hlen;have:L=[]:=aO hn;subst this;rw [Qd (r:=.inl (A++[]++x::Q)) (by
   simp only [Qz,aF,cU,decide_eq_false (show ¬ ((A.length:Int)<(A.length:Int)) by omega),cond_false])]
  simp
 | succ n ih=>
  intro L Q hn hlen;obtain ⟨S,y,rfl⟩:∃ S y,L=S++[y]:=by
   rcases List.eq_nil_or_concat L with e|⟨S,y,e⟩
   ·subst e; cases hn
   ·exact ⟨S,y,by simpa using e⟩
  have hSn:S.length=n:=by simpa using hn
  have hD:A++(S++[y])++x::Q=(A++S)++y::x::Q:=by simp
  have hlen':((A++S)++y::x::Q).length=a0.length:=by rw [<- hD]; exact hlen
  have hA:(A++S).length=A.length+S.length:=by simp
  have hb:A.length+S.length+1<a0.length:=by rw [<- hlen']; simp; omega
  have g1:((A++S)++y::x::Q)[A.length+S.length+1]? = some x:=by rw [<- hA]; exact Jup _ _ _ _
  have g0:((A++S)++y::x::Q)[A.length+S.length]? = some y:=by rw [<- hA]; exact Jl0 _ _ _
  have hj:A.length+(S++[y]).length=A.length+S.length+1:=by simp; omega
  have hl2:(((A++S)++y::x::Q).set (A.length+S.length+1) y).length=a0.length:=by rw [cG]; exact hlen'
  have g2:(((A++S)++y::x::Q).set (A.length+S.length+1) y)[A.length+S.length]? = some y:=by
   rw [cQ oG]; exact g0
  have hsw:=Jv9 (A++S) y x Q;rw [hA] at hsw;have:=ih S (y::Q) hSn (by rw [<- hlen']; simp);rw [hD,hj,Vq (s':=(((A.length+S.length:Nat):Int),A++S++x::y::Q)) ?_,this]
  ·simp
  ·simp only [Qz,Rv,decide_eq_true (show (A.length:Int)<((A.length+S.length+1:Nat):Int) by omega),cond_true,Khc (show A.length+S.length<1048577 by omega),xix hb,xix (show A.length+S.length<a0.length by omega),aA,xld hlen' g1,xld hlen' g0,xld hl2 g2,hsw]
theorem Kfy(n:Nat):Ke (n+1)=Ju (Ke n):=rfl
theorem Jhc{α:Type}{L:List α}{k:Nat}{x:α}(h:x∈L.take k):∃ i,i<k/\L[i]? = some x:=by
 obtain ⟨i,hi⟩:=aS h;rw [bS] at hi;split at hi
 ·exact ⟨i,by assumption,hi⟩
 ·cases hi
theorem Jdt{α:Type}{L:List α}{k:Nat}{x:α}(h:x∈L.drop k):∃ i,k<=i/\L[i]? = some x:=by
 obtain ⟨i,hi⟩:=aS h;rw [cK] at hi;exact ⟨k+i,by omega,hi⟩
theorem Kkl(rc:List Jd->Int->Int->Int->Option (List Jd))(P R Q:List Jd)(x:Jd)(hR:R.Pairwise leL)(hL:(P++[x]++R++Q).length<=1048576) :
  ∃ M,Ju rc (P++[x]++R++Q) (P.length:Int) ((P.length+1:Nat):Int) ((P.length+1+R.length:Nat):Int)=some (P++M++Q)/\M.Perm ([x]++R)/\M.Pairwise leL:=by
 have hlen:=hL;simp only [aH,aE,aF,aW] at hlen;have gx:(P++[x]++R++Q)[P.length]? = some x:=by simp
 haveI:DecidablePred fun h:Nat=>∃ y,(P++[x]++R++Q)[h]? = some y/\ltL y x:=fun _=>Classical.propDecidable _
 have hN:(P++[x]++R++Q).length=P.length+1+R.length+Q.length:=by simp; omega
 obtain ⟨s,s1,s2,s3,s4,s5⟩:=Jtk (step:=Qy (P++[x]++R++Q) (P.length:Int)) (fun h:Nat=>∃ y,(P++[x]++R++Q)[h]? = some y/\ltL y x) (P.length+1) (P.length+1+R.length)
  (fun h k h1 h2 h3 ⟨y,hy,hyx⟩=>by
   have e1:=gR P [x] R Q (i:=h - (P.length+1)) oG;have e2:=gR P [x] R Q (i:=k - (P.length+1)) oG;simp only [aE,aF,aW] at e1 e2;rw [show P.length+1+(h - (P.length+1))=h by omega] at e1;rw [show P.length+1+(k - (P.length+1))=k by omega,hy] at e2;have hz:R[h - (P.length+1)]? = some R[h - (P.length+1)]:=aB oG;exact ⟨_,e1.trans hz,Jww (Lk hR oG hz e2.symm) hyx⟩)
  (fun i j h1 h2 h3=>by
   have hy:(P++[x]++R++Q)[(i+j) / 2]? = some (P++[x]++R++Q)[(i+j) / 2]:=aB oG;obtain ⟨r,hr,hd⟩:=Jto (P++[x]++R++Q)[(i+j) / 2] x;simp only [Qy,Rv,decide_eq_true (show (i:Int)<(j:Int) by omega),cond_true,Kgp (show i<1048577 by omega) (show j<1048577 by omega),xix (show (i+j) / 2<(P++[x]++R++Q).length by omega),xix (show P.length<(P++[x]++R++Q).length by omega),aA,xld rfl hy,xld rfl gx,hr,hd,Kae (show (i+j) / 2<1048577 by omega)]
   by_cases hlt:ltL (P++[x]++R++Q)[(i+j) / 2] x
   ·rw [decide_eq_true hlt,cond_true,if_pos ⟨_,hy,hlt⟩]
   ·rw [decide_eq_false hlt,cond_false,if_neg (fun ⟨y,hy',h⟩=>by rw [hy] at hy'; cases hy'; exact hlt h)])
  (fun i=>by simp [Qy]) oG
 have hRs:R=R.take (s - (P.length+1))++R.drop (s - (P.length+1)):=(bB _ _).symm;have t1:(R.take (s - (P.length+1))).length=s - (P.length+1):=by simp; omega
 have hsh:=Kk2 (P++[x]++R++Q) hL x s (R.take (s - (P.length+1))) P (R.drop (s - (P.length+1))++Q) (by rw [t1]; omega) (by rw [<- bC,<- hRs]; simp);rw [<- bC (R.take _),<- hRs] at hsh;refine ⟨R.take (s - (P.length+1))++x::R.drop (s - (P.length+1)), ?_, ?_, ?_⟩
 ·unfold Ju;rw [Jhu (show P.length+1<4194304 by omega) oG,decide_eq_true (show ((P.length+1 - P.length:Nat):Int)=1 by omega),cond_true,s3];simp only [onInl,Vm,aA];rw [show P++[x]++R++Q=P++x::(R++Q) by simp] at hsh ⊢;rw [hsh];simp [Vm]
 ·refine eU.trans ?_;rw [<- hRs]; rfl
 ·have hR':=hR;rw [hRs,aZ] at hR';obtain ⟨q1,q2,q3⟩:=hR';have at_:∀ {i:Nat} {y:Jd},R[i]? = some y->(P++[x]++R++Q)[P.length+1+i]? = some y:=fun {i} {y} hy=>by
   have:=gR P [x] R Q (i:=i) (aG.1 hy).1;simp only [aE,aF,aW] at this;rw [this,hy]
  rw [aZ,cR];refine ⟨q1,⟨fun y hy=>?_,q2⟩,fun y hy z hz=>?_⟩
  ·obtain ⟨i,i1,i2⟩:=Jdt hy;have hil:=(aG.1 i2).1;exact fun hlt=>s5 (P.length+1+i) oG oG ⟨y,at_ i2,hlt⟩
  ·rcases bD.1 hz with rfl|hz
   ·obtain ⟨i,i1,i2⟩:=Jhc hy;obtain ⟨y',hy',hlt⟩:=s4 (P.length+1+i) oG oG;rw [at_ i2] at hy'; cases hy';exact Jbj hlt
   ·exact q3 y hy z hz
theorem Kk5(rc:List Jd->Int->Int->Int->Option (List Jd))(P L Q:List Jd)(x:Jd)(hLs:L.Pairwise leL)(hl1:L.length≠1)(hL:(P++L++[x]++Q).length<=1048576) :
  ∃ M,Ju rc (P++L++[x]++Q) (P.length:Int) ((P.length+L.length:Nat):Int) ((P.length+L.length+1:Nat):Int)=some (P++M++Q)/\M.Perm (L++[x])/\M.Pairwise leL:=by
 have hlen:=hL;simp only [aH,aE,aF,aW] at hlen;have gx:(P++L++[x]++Q)[P.length+L.length]? = some x:=by simp
 haveI:DecidablePred fun h:Nat=>∃ y,(P++L++[x]++Q)[h]? = some y/\leL y x:=fun _=>Classical.propDecidable _
 have hN:(P++L++[x]++Q).length=P.length+L.length+1+Q.length:=by simp; omega
 obtain ⟨s,s1,s2,s3,s4,s5⟩:=Jtk (step:=Ua (P++L++[x]++Q) ((P.length+L.length:Nat):Int)) (fun h:Nat=>∃ y,(P++L++[x]++Q)[h]? = some y/\leL y x) P.length (P.length+L.length)
  (fun h k h1 h2 h3 ⟨y,hy,hyx⟩=>by
   have e1:=gL P L [x] Q (i:=h - P.length) oG;have e2:=gL P L [x] Q (i:=k - P.length) oG;rw [show P.length+(h - P.length)=h by omega] at e1;rw [show P.length+(k - P.length)=k by omega,hy] at e2;have hz:L[h - P.length]? = some L[h - P.length]:=aB oG;exact ⟨_,e1.trans hz,Lw (Lk hLs oG hz e2.symm) hyx⟩)
  (fun i j h1 h2 h3=>by
   have hy:(P++L++[x]++Q)[(i+j) / 2]? = some (P++L++[x]++Q)[(i+j) / 2]:=aB oG;obtain ⟨r,hr,hd⟩:=Jto x (P++L++[x]++Q)[(i+j) / 2];simp only [Ua,Rv,decide_eq_true (show (i:Int)<(j:Int) by omega),cond_true,Kgp (show i<1048577 by omega) (show j<1048577 by omega),xix (show (i+j) / 2<(P++L++[x]++Q).length by omega),xix (show P.length+L.length<(P++L++[x]++Q).length by omega),aA,xld rfl hy,xld rfl gx,hr,hd,Kae (show (i+j) / 2<1048577 by omega)]
   by_cases hlt:ltL x (P++L++[x]++Q)[(i+j) / 2]
   ·rw [decide_eq_true hlt,aX,cond_false,if_neg (fun ⟨y,hy',h⟩=>by rw [hy] at hy'; cases hy'; exact h hlt)]
   ·rw [decide_eq_false hlt,cH,cond_true,if_pos ⟨_,hy,hlt⟩])
  (fun i=>by simp [Ua]) oG
 have hRs:L=L.take (s - P.length)++L.drop (s - P.length):=(bB _ _).symm;have t1:(P++L.take (s - P.length)).length=s:=by simp; omega
 have t2:(L.drop (s - P.length)).length=P.length+L.length - s:=by simp; omega
 have hsh:=Kkb (P++L++[x]++Q) hL x (P++L.take (s - P.length)) _ (L.drop (s - P.length)) Q rfl (by rw [bC P,<- hRs]; simp);rw [t1,t2,show s+(P.length+L.length - s)=P.length+L.length by omega,bC P (L.take _) (L.drop _),<- hRs] at hsh;refine ⟨L.take (s - P.length)++x::L.drop (s - P.length), ?_, ?_, ?_⟩
 ·unfold Ju;rw [Jhu (show P.length+L.length<4194304 by omega) oG,decide_eq_false (show ¬ (((P.length+L.length - P.length:Nat):Int)=1) by omega),cond_false,
   Jhu (show P.length+L.length+1<4194304 by omega) oG,decide_eq_true (show ((P.length+L.length+1 - (P.length+L.length):Nat):Int)=1 by omega),cond_true,s3]
  simp only [onInl,Vm,aA];rw [show P++L++[x]++Q=P++L++x::Q by simp] at hsh ⊢;rw [hsh];simp [Vm]
 ·refine eU.trans ?_;rw [<- hRs];have:=@List.perm_append_comm _ [x] L
  simpa using this
 ·have hR':=hLs;rw [hRs,aZ] at hR';obtain ⟨q1,q2,q3⟩:=hR';have at_:∀ {i:Nat} {y:Jd},L[i]? = some y->(P++L++[x]++Q)[P.length+i]? = some y:=fun {i} {y} hy=>by
   rw [gL P L [x] Q (i:=i) (aG.1 hy).1,hy]
  rw [aZ,cR];refine ⟨q1,⟨fun y hy=>?_,q2⟩,fun y hy z hz=>?_⟩
  ·obtain ⟨i,i1,i2⟩:=Jdt hy;have hil:=(aG.1 i2).1;have:=s5 (P.length+i) oG oG;exact Jbj (bA.1 fun hlt=>this ⟨y,at_ i2,hlt⟩)
  ·rcases bD.1 hz with rfl|hz
   ·obtain ⟨i,i1,i2⟩:=Jhc hy;obtain ⟨y',hy',hlt⟩:=s4 (P.length+i) oG oG;rw [at_ i2] at hy'; cases hy';exact hlt
   ·exact q3 y hy z hz
theorem Jsu(D:List Jd)(hD:D.length<=1048576)(a m b:Nat)(h1:a<=m)(h2:m<=b)(h3:b<=D.length)(hm0:0<m)(hLs:∀ h k y z,a<=h->h<=k->k<m->D[h]? = some y->D[k]? = some z->leL y z)(hRs:∀ h k y z,m<=h->h<=k->k<b->D[h]? = some y->D[k]? = some z->leL y z)(st0 r0:Nat)(h4:a<=st0)(h5:st0<=r0)(h6:r0<=m)(hp:∀ c,st0<=c->c<r0->m<=(a+b) / 2+m - 1 - c/\(a+b) / 2+m - 1 - c<b) :
  ∃ s,st0<=s/\s<=r0/\Jp (Kw D (a:Int) (m:Int) (b:Int)) ((st0:Int),(r0:Int))=some (.inl (s:Int))/\(∀ c,st0<=c->c<s->∃ y z,D[(a+b) / 2+m - 1 - c]? = some y/\D[c]? = some z/\leL z y) /\
   ∀ c,s<=c->c<r0->∀ y z,D[(a+b) / 2+m - 1 - c]? = some y->D[c]? = some z->ltL y z:=by
 haveI:DecidablePred fun c:Nat=>∃ y z,D[(a+b) / 2+m - 1 - c]? = some y/\D[c]? = some z/\leL z y:=fun _=>Classical.propDecidable _
 have gt:∀ i,i<D.length->∃ y,D[i]? = some y:=fun i hi=>⟨D[i],aB hi⟩
 obtain ⟨s,s1,s2,s3,s4,s5⟩:=Jtk (step:=Kw D (a:Int) (m:Int) (b:Int)) (fun c:Nat=>∃ y z,D[(a+b) / 2+m - 1 - c]? = some y/\D[c]? = some z/\leL z y) st0 r0
  (fun h k q1 q2 q3 ⟨y,z,hy,hz,hzy⟩=>by
   have p1:=hp h q1 oG; have p2:=hp k oG q3;obtain ⟨y',hy'⟩:=gt ((a+b) / 2+m - 1 - h) oG;obtain ⟨z',hz'⟩:=gt h oG;exact ⟨y',z',hy',hz',Lw (hLs h k z' z oG q2 oG hz' hz) (Lw hzy (hRs _ _ y y' p2.1 oG p1.2 hy hy'))⟩)
  (fun i j q1 q2 q3=>by
   have p1:=hp ((i+j) / 2) oG oG;obtain ⟨y,hy⟩:=gt ((a+b) / 2+m - 1 - (i+j) / 2) oG;obtain ⟨z,hz⟩:=gt ((i+j) / 2) oG;obtain ⟨r,hr,hd⟩:=Jto y z;simp only [Kw,Rv,decide_eq_true (show (i:Int)<(j:Int) by omega),cond_true,Kgp (show i<1048577 by omega) (show j<1048577 by omega),Kgp (show a<1048577 by omega) (show b<1048577 by omega),Jzz (show (a+b) / 2<1048577 by omega) (show m<1048577 by omega),
    Ki1 (show (a+b) / 2+m<4194304 by omega) (show 1<=(a+b) / 2+m by omega),Jhu (show (a+b) / 2+m - 1<4194304 by omega) (show (i+j) / 2<=(a+b) / 2+m - 1 by omega),xix (show (a+b) / 2+m - 1 - (i+j) / 2<D.length by omega),xix (show (i+j) / 2<D.length by omega),aA,xld rfl hy,xld rfl hz,hr,hd,Kae (show (i+j) / 2<1048577 by omega)]
   by_cases hlt:ltL y z
   ·rw [decide_eq_true hlt,aX,cond_false,if_neg (fun ⟨y',z',hy',hz',h⟩=>by rw [hy] at hy'; rw [hz] at hz'; cases hy'; cases hz'; exact h hlt)]
   ·rw [decide_eq_false hlt,cH,cond_true,if_pos ⟨y,z,hy,hz,hlt⟩])
  (fun i=>by simp [Kw]) h5
 exact ⟨s,s1,s2,s3,s4,fun c q1 q2 y z hy hz=>bA.1 fun hn=>s5 c q1 q2 ⟨y,z,hy,hz,hn⟩⟩
theorem Kke(rc:List Jd->Int->Int->Int->Option (List Jd))(P L R Q:List Jd)(a m b:Nat)(ha:a=P.length)(hm:m=a+L.length)(hb:b=m+R.length)(hL2:2<=L.length)(hR2:2<=R.length)(hLs:L.Pairwise leL)(hRs:R.Pairwise leL)(hL:(P++L++R++Q).length<=1048576)(ih:∀ P' L' R' Q':List Jd,L'.length+R'.length<L.length+R.length->0<L'.length->0<R'.length->L'.Pairwise leL->R'.Pairwise leL->(P'++L'++R'++Q').length<=1048576 ->
   ∃ M,rc (P'++L'++R'++Q') (P'.length:Int) ((P'.length+L'.length:Nat):Int) ((P'.length+L'.length+R'.length:Nat):Int)=some (P'++M++Q')/\M.Perm (L'++R')/\M.Pairwise leL) :
  ∃ M,Ju rc (P++L++R++Q) (a:Int) (m:Int) (b:Int)=some (P++M++Q)/\M.Perm (L++R)/\M.Pairwise leL:=by
 have hlen:=hL;simp only [aH] at hlen;have atL:∀ i,i<L.length->(P++L++R++Q)[a+i]? = L[i]?:=fun i hi=>by rw [ha]; exact gL P L R Q hi
 have atR:∀ i,i<R.length->(P++L++R++Q)[m+i]? = R[i]?:=fun i hi=>by rw [hm,ha]; exact gR P L R Q hi
 have hDl:(P++L++R++Q).length=b+Q.length:=by simp; omega
 have sL:∀ h k y z,a<=h->h<=k->k<m->(P++L++R++Q)[h]? = some y->(P++L++R++Q)[k]? = some z->leL y z:=fun h k y z q1 q2 q3 hy hz=>by
  have e1:=atL (h - a) oG; have e2:=atL (k - a) oG;rw [show a+(h - a)=h by omega,hy] at e1; rw [show a+(k - a)=k by omega,hz] at e2;exact Lk hLs oG e1.symm e2.symm
 have sR:∀ h k y z,m<=h->h<=k->k<b->(P++L++R++Q)[h]? = some y->(P++L++R++Q)[k]? = some z->leL y z:=fun h k y z q1 q2 q3 hy hz=>by
  have e1:=atR (h - m) oG; have e2:=atR (k - m) oG;rw [show m+(h - m)=h by omega,hy] at e1; rw [show m+(k - m)=k by omega,hz] at e2;exact Lk hRs oG e1.symm e2.symm
 -- the start of the search, and its end
 obtain ⟨st0,r0,hst,s,g0,g1,g2,g3,g4,g5,g6⟩:∃ st0 r0:Nat,(bif decide ((((a+b) / 2:Nat):Int)<(m:Int)) then some (.inl (w64 ((w64 ((((a+b) / 2:Nat):Int)+(m:Int))) - (b:Int)),(((a+b) / 2:Nat):Int))) else some (.inl ((a:Int),(m:Int))):Option ((Int×Int)⊕List Jd))=some (.inl ((st0:Int),(r0:Int))) /\
   ∃ s:Nat,Jp (Kw (P++L++R++Q) (a:Int) (m:Int) (b:Int)) ((st0:Int),(r0:Int))=some (.inl (s:Int))/\a<=s/\s<=m/\s<=(a+b) / 2/\(a+b) / 2+m - s<=b /\
    (∀ y z,a<s->(a+b) / 2+m - s<b->(P++L++R++Q)[s - 1]? = some y->(P++L++R++Q)[(a+b) / 2+m - s]? = some z->leL y z) /\
    (∀ y z,s<m->m<(a+b) / 2+m - s->(P++L++R++Q)[(a+b) / 2+m - s - 1]? = some y->(P++L++R++Q)[s]? = some z->ltL y z):=by
  by_cases hc:(a+b) / 2<m
  ·obtain ⟨s,s1,s2,s3,s4,s5⟩:=Jsu (P++L++R++Q) hL a m b oG oG oG oG sL sR ((a+b) / 2+m - b) ((a+b) / 2) oG oG oG (fun c q1 q2=>by omega);refine ⟨(a+b) / 2+m - b,(a+b) / 2, ?_,s,s3,by omega,by omega,by omega,by omega,fun y z q1 q2 hy hz=>?_,fun y z q1 q2 hy hz=>?_⟩
   ·rw [decide_eq_true (show (((a+b) / 2:Nat):Int)<(m:Int) by omega),cond_true,Jzz oG oG,Jhu oG oG]
   ·obtain ⟨y',z',k1,k2,k3⟩:=s4 (s - 1) oG oG;rw [show (a+b) / 2+m - 1 - (s - 1)=(a+b) / 2+m - s by omega,hz] at k1;rw [hy] at k2; cases k1; cases k2; exact k3
   ·exact s5 s (aJ _) oG y z (by rw [show (a+b) / 2+m - 1 - s=(a+b) / 2+m - s - 1 by omega]; exact hy) hz
  ·obtain ⟨s,s1,s2,s3,s4,s5⟩:=Jsu (P++L++R++Q) hL a m b oG oG oG oG sL sR a m oG oG oG (fun c q1 q2=>by omega);refine ⟨a,m, ?_,s,s3,by omega,by omega,by omega,by omega,fun y z q1 q2 hy hz=>?_,fun y z q1 q2 hy hz=>?_⟩
   ·rw [decide_eq_false (show ¬ (((a+b) / 2:Nat):Int)<(m:Int) by omega),cond_false]
   ·obtain ⟨y',z',k1,k2,k3⟩:=s4 (s - 1) oG oG;rw [show (a+b) / 2+m - 1 - (s - 1)=(a+b) / 2+m - s by omega,hz] at k1;rw [hy] at k2; cases k1; cases k2; exact k3
   ·exact s5 s (aJ _) oG y z (by rw [show (a+b) / 2+m - 1 - s=(a+b) / 2+m - s - 1 by omega]; exact hy) hz
 obtain ⟨e,he⟩:∃ e,e=(a+b) / 2+m - s:=⟨_,rfl⟩
 rw [<- he] at g4 g5 g6
 -- the four parts
 have hLp:L=L.take (s - a)++L.drop (s - a):=(bB _ _).symm;have hRp:R=R.take (e - m)++R.drop (e - m):=(bB _ _).symm;obtain ⟨L1,hL1⟩:∃ L1,L1=L.take (s - a):=⟨_,rfl⟩
 obtain ⟨L2,hL2'⟩:∃ L2,L2=L.drop (s - a):=⟨_,rfl⟩
 obtain ⟨R1,hR1⟩:∃ R1,R1=R.take (e - m):=⟨_,rfl⟩
 obtain ⟨R2,hR2'⟩:∃ R2,R2=R.drop (e - m):=⟨_,rfl⟩
 have l1:L1.length=s - a:=by rw [hL1]; simp; omega
 have l2:L2.length=m - s:=by rw [hL2']; simp; omega
 have r1:R1.length=e - m:=by rw [hR1]; simp; omega
 have r2:R2.length=b - e:=by rw [hR2']; simp; omega
 rw [<- hL1,<- hL2'] at hLp;rw [<- hR1,<- hR2'] at hRp;have mL1:∀ x∈L1,∃ i,i<s - a/\L[i]? = some x:=fun x hx=>Jhc (hL1▸hx);have mL2:∀ x∈L2,∃ i,s - a<=i/\L[i]? = some x:=fun x hx=>Jdt (hL2'▸hx);have mR1:∀ x∈R1,∃ i,i<e - m/\R[i]? = some x:=fun x hx=>Jhc (hR1▸hx);have mR2:∀ x∈R2,∃ i,e - m<=i/\R[i]? = some x:=fun x hx=>Jdt (hR2'▸hx);have pL:=hLs; rw [hLp,aZ] at pL;have pR:=hRs; rw [hRp,aZ] at pR;have hQl:Q.length<=1048576 - b:=by omega
 -- everything in the left half is before everything in the right half
 have cross:∀ x,(x∈L1\/x∈R1)->∀ y,(y∈L2\/y∈R2)->leL x y:=by
  intro x hx y hy;rcases hx with hx|hx <;> rcases hy with hy|hy
  ·exact pL.2.2 x hx y hy
  ·obtain ⟨i,i1,i2⟩:=mL1 x hx;obtain ⟨j,j1,j2⟩:=mR2 y hy;have hjl:=(aG.1 j2).1;have u1:L[s - 1 - a]? = some L[s - 1 - a]:=aB oG;have u2:R[e - m]? = some R[e - m]:=aB oG;have k1:=atL (s - 1 - a) oG; have k2:=atR (e - m) oG;rw [show a+(s - 1 - a)=s - 1 by omega,u1] at k1;rw [show m+(e - m)=e by omega,u2] at k2;exact Lw (Lk hLs oG i2 u1) (Lw (g5 _ _ oG oG k1 k2) (Lk hRs j1 u2 j2))
  ·obtain ⟨i,i1,i2⟩:=mR1 x hx;obtain ⟨j,j1,j2⟩:=mL2 y hy;have hjl:=(aG.1 j2).1;have u1:R[e - 1 - m]? = some R[e - 1 - m]:=aB oG;have u2:L[s - a]? = some L[s - a]:=aB oG;have k1:=atR (e - 1 - m) oG; have k2:=atL (s - a) oG;rw [show m+(e - 1 - m)=e - 1 by omega,u1] at k1;rw [show a+(s - a)=s by omega,u2] at k2;exact Lw (Lk hRs oG i2 u1) (Lw (Jbj (g6 _ _ oG oG k1 k2)) (Lk hLs j1 u2 j2))
  ·exact pR.2.2 x hx y hy
 -- the left half
 obtain ⟨M1,m1,m2,m3⟩:∃ M1,(bif (decide ((a:Int)<(s:Int))&&decide ((s:Int)<(((a+b) / 2:Nat):Int))) then ((rc (P++L1++R1++(L2++R2++Q)) (a:Int) (s:Int) (((a+b) / 2:Nat):Int)).bind fun r=>(some (.inl r):Option (List Jd⊕List Jd))) else some (.inl (P++L1++R1++(L2++R2++Q))))=some (.inl (P++M1++(L2++R2++Q)))/\M1.Perm (L1++R1)/\M1.Pairwise leL:=by
  by_cases hc:a<s/\s<(a+b) / 2
  ·obtain ⟨M,k1,k2,k3⟩:=ih P L1 R1 (L2++R2++Q) oG oG oG pL.1 pR.1 (by simp; omega);rw [<- ha,l1,r1,show a+(s - a)=s by omega,show s+(e - m)=(a+b) / 2 by omega] at k1;refine ⟨M, ?_,k2,k3⟩;rw [decide_eq_true (show (a:Int)<(s:Int) by omega),decide_eq_true (show (s:Int)<(((a+b) / 2:Nat):Int) by omega),k1]
   rfl
  ·refine ⟨L1++R1, ?_,List.Perm.refl _, ?_⟩
   ·have:(decide ((a:Int)<(s:Int))&&decide ((s:Int)<(((a+b) / 2:Nat):Int)))=false:=by
     rw [dS,decide_eq_false_iff_not,decide_eq_false_iff_not]; omega
    rw [this,cond_false,bC P]
   ·rw [aZ];refine ⟨pL.1,pR.1,fun x hx y hy=>?_⟩;have:=dN hx; have:=dN hy;omega
 have hM1:M1.length=(a+b) / 2 - a:=by rw [m2.length_eq]; simp; omega
 -- the right half
 obtain ⟨M2,n1,n2,n3⟩:∃ M2,(bif (decide ((((a+b) / 2:Nat):Int)<(e:Int))&&decide ((e:Int)<(b:Int))) then ((rc (P++M1++(L2++R2++Q)) (((a+b) / 2:Nat):Int) (e:Int) (b:Int)).bind fun r=>some r) else some (P++M1++(L2++R2++Q)))=some (P++(M1++M2)++Q)/\M2.Perm (L2++R2)/\M2.Pairwise leL:=by
  by_cases hc:(a+b) / 2<e/\e<b
  ·obtain ⟨M,k1,k2,k3⟩:=ih (P++M1) L2 R2 Q oG oG oG pL.2.1 pR.2.1 (by simp; omega);rw [show (P++M1).length=(a+b) / 2 by simp; omega,l2,r2,show (a+b) / 2+(m - s)=e by omega,show e+(b - e)=b by omega] at k1;refine ⟨M, ?_,k2,k3⟩;rw [decide_eq_true (show (((a+b) / 2:Nat):Int)<(e:Int) by omega),decide_eq_true (show (e:Int)<(b:Int) by omega),show P++M1++(L2++R2++Q)=P++M1++L2++R2++Q by simp,k1];simp
  ·refine ⟨L2++R2, ?_,List.Perm.refl _, ?_⟩
   ·have:(decide ((((a+b) / 2:Nat):Int)<(e:Int))&&decide ((e:Int)<(b:Int)))=false:=by
     rw [dS,decide_eq_false_iff_not,decide_eq_false_iff_not]; omega
    rw [this,cond_false];simp
   ·rw [aZ];refine ⟨pL.2.1,pR.2.1,fun x hx y hy=>?_⟩;have:=dN hx; have:=dN hy;omega
 refine ⟨M1++M2, ?_, ?_, ?_⟩
 ·unfold Ju;rw [Jhu (show m<4194304 by omega) oG,decide_eq_false (show ¬ (((m - a:Nat):Int)=1) by omega),cond_false,Jhu (show b<4194304 by omega) oG,decide_eq_false (show ¬ (((b - m:Nat):Int)=1) by omega),cond_false];simp only [Kgp (show a<1048577 by omega) (show b<1048577 by omega)];rw [hst];simp only [onInl,Vm,aA];rw [g0];simp only [onInl,Vm,aA,Jzz (show (a+b) / 2<1048577 by omega) (show m<1048577 by omega),Jhu (show (a+b) / 2+m<4194304 by omega) (show s<=(a+b) / 2+m by omega),<- he];have hrot:(bif (decide ((s:Int)<(m:Int))&&decide ((m:Int)<(e:Int))) then ((Kq (P++L++R++Q) (s:Int) (m:Int) (e:Int)).bind fun r=>(some (.inl r):Option (List Jd⊕List Jd))) else some (.inl (P++L++R++Q)))=some (.inl (P++L1++R1++(L2++R2++Q))):=by
   have hD:P++L++R++Q=(P++L1)++L2++R1++(R2++Q):=by
    rw [hLp,hRp]; simp
   by_cases hc:s<m/\m<e
   ·have:=Kdb (P++L1) L2 R1 (R2++Q) (by rw [<- hD]; exact hL) oG oG;rw [<- hD,show (P++L1).length=s by simp; omega,l2,r1,show s+(m - s)=m by omega,show m+(e - m)=e by omega] at this;rw [decide_eq_true (show (s:Int)<(m:Int) by omega),decide_eq_true (show (m:Int)<(e:Int) by omega),this];simp
   ·have:(decide ((s:Int)<(m:Int))&&decide ((m:Int)<(e:Int)))=false:=by
     rw [dS,decide_eq_false_iff_not,decide_eq_false_iff_not]; omega
    rw [this,cond_false,hD]
    by_cases hs:s<m
    ·have:R1=[]:=aO oG;rw [this]; simp
    ·have:L2=[]:=aO oG;rw [this]; simp
  rw [hrot];simp only [onInl,Vm,aA];rw [m1];simp only [onInl,Vm,aA];exact n1
 ·have h1:(M1++M2).Perm ((L1++R1)++(L2++R2)):=m2.append n2;refine h1.trans ?_;rw [hLp,hRp];have h2:(R1++(L2++R2)).Perm (L2++(R1++R2)):=by
   have:=(@List.perm_append_comm _ R1 L2).append_right R2
   simpa using this
  have:=h2.append_left L1
  simpa using this
 ·rw [aZ];refine ⟨m3,n3,fun x hx y hy=>cross x ?_ y ?_⟩
  ·exact aY.1 (m2.subset hx)
  ·exact aY.1 (n2.subset hy)
theorem Jyl : ∀ (n:Nat) (P L R Q:List Jd),L.length+R.length<=n->0<L.length->0<R.length->L.Pairwise leL->R.Pairwise leL->(P++L++R++Q).length<=1048576 ->
  ∃ M,Ke n (P++L++R++Q) (P.length:Int) ((P.length+L.length:Nat):Int) ((P.length+L.length+R.length:Nat):Int)=some (P++M++Q)/\M.Perm (L++R)/\M.Pairwise leL:=by
 intro n;induction n with
 | zero=>intro P L R Q h h1 h2; omega
 | succ n ih=>
  intro P L R Q h h1 h2 hLs hRs hL;rw [Kfy]
  by_cases c1:L.length=1
  ·obtain ⟨x,rfl⟩:=List.length_eq_one_iff.1 c1;exact Kkl _ P R Q x hRs hL
  ·by_cases c2:R.length=1
   ·obtain ⟨x,rfl⟩:=List.length_eq_one_iff.1 c2;exact Kk5 _ P L Q x hLs c1 hL
   ·exact Kke _ P L R Q _ _ _ rfl rfl rfl oG oG hLs hRs hL (fun P' L' R' Q' q=>ih P' L' R' Q' oG)
theorem Jvh(P L R Q:List Jd)(h1:0<L.length)(h2:0<R.length)(hLs:L.Pairwise leL)(hRs:R.Pairwise leL)(hL:(P++L++R++Q).length<=1048576) :
  ∃ M,Qg (P++L++R++Q) (P.length:Int) ((P.length+L.length:Nat):Int) ((P.length+L.length+R.length:Nat):Int)=some (P++M++Q)/\M.Perm (L++R)/\M.Pairwise leL:=by
 have:=Jyl (Tm+1) P L R Q (by simp only [aH,Tm] at *; omega) h1 h2 hLs hRs hL;rw [Kfy] at this;exact this
theorem Jrt(X:List Jd)(h:X.length<=39):∃ M,Ku X=some M/\M.Perm X/\M.Pairwise leL:=by
 unfold Ku Qq;rw [Rv]
 by_cases hn:X.length<20
 ·obtain ⟨M,m1,m2,m3⟩:=Jiu [] X [] (by simp; omega);simp only [cX,bE,aF,aW] at m1;refine ⟨M, ?_,m2,m3⟩;rw [Qd (r:=.inl (X,0)) (by simp only [Qm,decide_eq_false (show ¬ (20:Int)<=((X.length:Nat):Int) by omega),cond_false])];simp only [onInl,Vm,aA];rw [show (0:Int)=((0:Nat):Int) from rfl,m1];simp only [aA];rw [Qd (r:=.inl M) (by simp only [Qn,decide_eq_false (show ¬ (20:Int)<((X.length:Nat):Int) by omega),cond_false])]
  rfl
 ·have hX:X=X.take 20++X.drop 20:=(bB _ _).symm;have t1:(X.take 20).length=20:=by simp; omega
  have t2:(X.drop 20).length=X.length - 20:=by simp
  obtain ⟨A,a1,a2,a3⟩:=Jiu [] (X.take 20) (X.drop 20) (by rw [cX,<- hX]; omega);simp only [cX,aF,aW,t1,<- hX] at a1;have hA:A.length=20:=by rw [a2.length_eq,t1]
  obtain ⟨B,b1,b2,b3⟩:=Jiu A (X.drop 20) [] (by simp [hA]; omega);simp only [bE,hA,t2] at b1;have hB:B.length=X.length - 20:=by rw [b2.length_eq,t2]
  have hAB:(A++B).Perm X:=by
   have:=a2.append b2
   rwa [<- hX] at this
  rw [show 20+(X.length - 20)=X.length by omega] at b1;have l0:Jp (Qm ((X.length:Nat):Int)) (0,20,X)=some (.inl (A++X.drop 20,20)):=by
   have w40:w64 ((20:Int)+20)=40:=by rw [Qt oG oG]; rfl
   rw [Vq (s':=((20:Int),(40:Int),A++X.drop 20)) (by
     simp only [Qm,decide_eq_true (show (20:Int)<=((X.length:Nat):Int) by omega),cond_true];rw [show (0:Int)=((0:Nat):Int) from rfl,show (20:Int)=((20:Nat):Int) from rfl,a1];simp only [aA];rw [show ((20:Nat):Int)=(20:Int) from rfl,w40]),
    Qd (r:=.inl (A++X.drop 20,20)) (by simp only [Qm,decide_eq_false (show ¬ (40:Int)<=((X.length:Nat):Int) by omega),cond_false])]
  rw [l0];simp only [onInl,Vm,aA];rw [show (20:Int)=((20:Nat):Int) from rfl,b1];simp only [aA]
  by_cases h20:X.length=20
  ·have hBn:B=[]:=aO oG;subst hBn;simp only [bE] at hAB ⊢;refine ⟨A, ?_,hAB,a3⟩;rw [Qd (r:=.inl A) (by simp only [Qn,decide_eq_false (show ¬ ((20:Nat):Int)<((X.length:Nat):Int) by omega),cond_false])]
   rfl
  ·obtain ⟨M,m1,m2,m3⟩:=Jvh [] A B [] oG oG a3 b3 (by simp; omega);simp only [cX,bE,aF,aW,hA,hB,show 20+(X.length - 20)=X.length by omega] at m1;refine ⟨M, ?_,m2.trans hAB,m3⟩;have w40:w64 (2 * ((20:Nat):Int))=40:=by rw [Qt oG oG]; rfl
   have w40':w64 (((20:Nat):Int) * 2)=40:=by rw [Qt oG oG]; rfl
   have w20:w64 ((0:Int)+((20:Nat):Int))=((20:Nat):Int):=by rw [Qt oG oG]; rfl
   rw [Vq (s':=((40:Int),M)) ?_,Qd (r:=.inl M) (by simp only [Qn,decide_eq_false (show ¬ (40:Int)<((X.length:Nat):Int) by omega),cond_false])]
   ·rfl
   ·simp only [Qn,decide_eq_true (show ((20:Nat):Int)<((X.length:Nat):Int) by omega),cond_true,w40,w40'];rw [Qd (r:=.inl (A++B,0)) (by simp only [Wm,decide_eq_false (show ¬ (40:Int)<=((X.length:Nat):Int) by omega),cond_false])];simp only [onInl,Vm,aA,w20,decide_eq_true (show ((20:Nat):Int)<((X.length:Nat):Int) by omega),cond_true];rw [show (0:Int)=((0:Nat):Int) from rfl,m1]
    rfl
def Jdm(k:Int)(s:Jb):Bool:=decide (k=1)||((decide (k=2)||decide (k=3))&&((decide (s.In=0)&&decide (s.Out=1))||(decide (s.In=1)&&decide (s.Out=0))))
theorem Jju(k:Int)(s:Jb):Er k s=some (Jdm k s):=by
 unfold Er Jdm
 by_cases h1:k=1
 ·simp [h1]
 ·by_cases h2:k=2
  ·simp [h2,onInl,Vm]
  ·by_cases h3:k=3
   ·simp [h3,onInl,Vm]
   ·simp [h1,h2,h3,onInl,Vm]
theorem Jx5{k a b:Int}(h:(Pi k a b).2=true):(k=1/\a=0/\b=1)\/(k=1/\a=1/\b=0)\/(k=2/\a=0/\b=1)\/(k=2/\a=0/\b=2)\/(k=2/\a=1/\b=0)\/(k=2/\a=2/\b=0)\/(k=3/\a=0/\b=1)\/(k=3/\a=1/\b=0)\/(k=3/\a=2/\b=3)\/(k=3/\a=3/\b=2):=by
 unfold Pi at h;split at h
 ·rename_i x hx;have h1:=List.find?_some hx;have h2:=eB hx;simp only [aI,decide_eq_true_eq] at h1;obtain ⟨⟨rfl,rfl⟩,rfl⟩:=h1;simp only [Qh,bD,List.not_mem_nil,or_false] at h2;rcases h2 with rfl|rfl|rfl|rfl|rfl|rfl|rfl|rfl|rfl|rfl <;> simp
 ·cases h
theorem Jm8{k:Int}{s:Jb}(h:(Pi k s.In s.Out).2=true):Ic k s=some (Jdm k s):=by
 unfold Ic Jdm;rcases Jx5 h with ⟨rfl,e1,e2⟩|⟨rfl,e1,e2⟩|⟨rfl,e1,e2⟩|⟨rfl,e1,e2⟩|⟨rfl,e1,e2⟩|⟨rfl,e1,e2⟩|⟨rfl,e1,e2⟩|⟨rfl,e1,e2⟩|⟨rfl,e1,e2⟩|⟨rfl,e1,e2⟩ <;> rw [e1,e2] <;> rfl
def atE(e:Jt)(s:Jb)(B:Int)(b:Jk):Int:=if s.In=1 then B+e.Length - b.Offset else B+b.Offset
def Jxi(e:Jt)(s:Jb)(B:Int)(b:Jk):Jd:=⟨b.Id,atE e s B b⟩
def Jax(l:Ja)(i:Int):List Jk:=l.Balises.filter fun b=>decide (b.El=i)
def Ex(en:Int)(e:Jt)(s:Jb)(B:Int)(L:List Jk):List Jd:=(L.map (Jxi e s B)).filter fun x=>decide (x.At<=en)
def Sp(l:Ja)(en B:Int)(s:Jb):List Jd :=
 match l.Elements[s.El.toNat]? with
 | some e=>if Jdm e.Kind s=true then Ex en e s B (Jax l s.El) else []
 | none=>[]
def Yt(l:Ja)(en:Int):Int->List Jb->List Jd
 | _,[]=>[]
 | B,s::w=>Sp l en B s++Yt l en (B+lenOf l s) w
theorem Jgf(l:Ja)(en:Int)(s:Jb):∀ (w:List Jb) (B:Int),Yt l en B (w++[s])=Yt l en B w++Sp l en (B+Uf l w) s
 | [],B=>by simp [Yt,Uf]
 | t::w,B=>by
  simp only [bO,Yt,Jgf l en s w,bC,Uf];rw [eM]
theorem Jkv(en:Int)(e:Jt)(s:Jb)(B:Int)(L:List Jk):(Ex en e s B L).length<=L.length:=by
 unfold Ex;exact bG (bZ _ _) sG
theorem Kci(l:Ja)(en B:Int)(s:Jb):(Sp l en B s).length<=l.Balises.length:=by
 unfold Sp;split
 ·split
  ·exact bG (Jkv _ _ _ _ _) (bZ _ _)
  ·simp
 ·simp
theorem Jim(l:Ja)(en:Int):∀ (w:List Jb) (B:Int),(Yt l en B w).length<=w.length * l.Balises.length
 | [],_=>by simp [Yt]
 | s::w,B=>by
  have:=Jim l en w (B+lenOf l s);have:=Kci l en B s;simp only [Yt,aH,aE,bU]; omega
theorem Jll{l:Ja}{en B:Int}{s:Jb}{x:Jd}(h:x∈Sp l en B s):∃ e b,l.Elements[s.El.toNat]? = some e/\Jdm e.Kind s=true/\b∈l.Balises/\b.El=s.El/\x=Jxi e s B b/\x.At<=en:=by
 unfold Sp at h;split at h
 ·rename_i e he;split at h
  ·rename_i hp;unfold Ex at h;obtain ⟨h1,h2⟩:=List.mem_filter.1 h;obtain ⟨b,hb,rfl⟩:=bN.1 h1;obtain ⟨h3,h4⟩:=List.mem_filter.1 hb;exact ⟨e,b,he,hp,h3,by simpa using h4,rfl,by simpa using h2⟩
  ·cases h
 ·cases h
theorem Jih{l:Ja}{en:Int}{x:Jd}:∀ {w:List Jb} {B:Int},x∈Yt l en B w->∃ i s,w[i]? = some s/\x∈Sp l en (B+Uf l (w.take i)) s
 | [],_,h=>by cases h
 | s::w,B,h=>by
  simp only [Yt] at h;rcases aY.1 h with h|h
  ·exact ⟨0,s,rfl,by simpa [Uf] using h⟩
  ·obtain ⟨i,t,h1,h2⟩:=Jih h;exact ⟨i+1,t,by simpa using h1,by simpa [Uf,eM] using h2⟩
theorem Js9{α β:Type}{f:α->β}:∀ {l:List α},(l.map f).Nodup->∀ {x y:α},x∈l->y∈l->f x=f y->x=y
 | [],_,_,_,h,_,_=>by cases h
 | a::l,hn,x,y,hx,hy,e=>by
  simp only [bT,List.nodup_cons] at hn;rcases bD.1 hx with hxa|hx1
  ·rcases bD.1 hy with hya|hy1
   ·rw [hxa,hya]
   ·exact absurd (bN.2 ⟨y,hy1,by rw [<- e,hxa]⟩:f a∈l.map f) hn.1
  ·rcases bD.1 hy with hya|hy1
   ·exact absurd (bN.2 ⟨x,hx1,by rw [e,hya]⟩:f a∈l.map f) hn.1
   ·exact Js9 hn.2 hx1 hy1 e
theorem Kb4{l:Ja}(hd:(l.Balises.map (·.Id)).Nodup)(en B:Int)(s:Jb):((Sp l en B s).map (·.Id)).Nodup:=by
 unfold Sp;split
 ·rename_i e _;split
  ·have h1:(((Jax l s.El).map (Jxi e s B)).map (·.Id))=(Jax l s.El).map (·.Id):=by
    rw [List.map_map]; rfl
   have h2:((Jax l s.El).map (·.Id)).Nodup:=hd.sublist ((List.filter_sublist).map _);rw [<- h1] at h2;exact h2.sublist ((List.filter_sublist).map _)
  ·exact List.nodup_nil
 ·exact List.nodup_nil
theorem Jq0{l:Ja}(hd:(l.Balises.map (·.Id)).Nodup)(en:Int):∀ (w:List Jb) (B:Int),(w.map (·.El)).Nodup->((Yt l en B w).map (·.Id)).Nodup
 | [],_,_=>List.nodup_nil
 | s::w,B,hw=>by
  simp only [bT,List.nodup_cons] at hw;simp only [Yt,cL];rw [List.nodup_append];refine ⟨Kb4 hd en B s,Jq0 hd en w _ hw.2,fun a ha b hb e=>?_⟩;subst e;obtain ⟨x,hx,rfl⟩:=bN.1 ha;obtain ⟨y,hy,hxy⟩:=bN.1 hb;obtain ⟨e1,b1,_,_,k1,k2,rfl,_⟩:=Jll hx;obtain ⟨i,t,ht,hyt⟩:=Jih hy;obtain ⟨e2,b2,_,_,q1,q2,rfl,_⟩:=Jll hyt;have:b2=b1:=Js9 hd q1 k1 hxy;subst this;exact hw.1 (bN.2 ⟨t,aC ht,q2.symm.trans k2⟩)
theorem Vo.els{l:Ja}{way:List Jb}(h:Vo l way):(way.map (·.El)).Nodup:=by
 rw [List.nodup_iff_pairwise_ne,List.pairwise_map,dC];intro i j hi hj hij e;have:=h.apart (aB hi) (aB hj) e;omega
theorem Jpy{l:Ja}(hO:OkL l){way:List Jb}(hv:Vo l way)(en B:Int):(Yt l en B way).length<=24:=by
 have h1:=Jq0 hO.bald en way B hv.els;have h2:((Yt l en B way).map (·.Id)).length<=(l.Balises.map (·.Id)).length:=Jtp h1 fun x hx=>by
  obtain ⟨y,hy,rfl⟩:=bN.1 hx;obtain ⟨i,t,ht,hyt⟩:=Jih hy;obtain ⟨e2,b2,_,_,q1,q2,rfl,_⟩:=Jll hyt;exact bN.2 ⟨b2,q1,rfl⟩
 have:=hO.counts;unfold Hj at this;simp only [aV] at h2;omega
theorem Jc0{l:Ja}(hO:OkL l){way:List Jb}(hv:Vo l way){i:Nat}{s:Jb}(hs:way[i]? = some s) :
  ∃ e,ixO l.Elements s.El=some e/\l.Elements[s.El.toNat]? = some e/\Um l s.El=true/\lenOf l s=e.Length/\Jdl l e/\(Pi e.Kind s.In s.Out).2=true:=by
 obtain ⟨t,ht,hp,_⟩:=hv.2.2 i (Qs hs);rw [hs] at ht; cases ht;unfold Jem at hp;cases hh:Um l s.El with
 | false=>rw [hh] at hp; cases hp
 | true=>
  obtain ⟨x,h1,h2⟩:=Vj hh;rw [hh,h2] at hp;exact ⟨x,h1,h2,rfl,by simp [lenOf,hh,h2],hO.elem.1 x (aC h2),hp⟩
theorem Sz{l:Ja}(hO:OkL l){way:List Jb}(hv:Vo l way):∀ i,i<=way.length->0<=Uf l (way.take i)/\Uf l (way.take i)<=(i:Int) * 1000000:=by
 intro i;induction i with
 | zero=>intro _; simp [Uf]
 | succ i ih=>
  intro hi;have hs:way[i]? = some way[i]:=aB oG;obtain ⟨e,_,_,_,h4,h5,_⟩:=Jc0 hO hv hs;have:=ih oG;rw [Vp hs,Yl];have h6:=h5.2.1;simp only [Uf,eG,h4];omega
theorem Kb7(fk:Jk->Int)(m:List (Int×List Jk))(k:Int):(Cq k m).map (·.2)=Ye m k:=by
 induction m with
 | nil=>rfl
 | cons e es ih=>
  unfold Cq Ye;simp only [dW]
  by_cases h:k=e.1
  ·simp [h]
  ·simp only [h,if_false,decide_false];unfold Ye at ih;rw [<- ih,Option.map_map]; rfl
theorem Kig(fk:Jk->Int)(k:Int)(bs:List Jk):(Ye (grp fk bs) k).getD []=bs.filter fun b=>decide (fk b=k):=by
 suffices ∀ (bs:List Jk) (m:List (Int×List Jk)),(Ye (bs.foldl (fun m x=>Jaq fk x m) m) k).getD []=(Ye m k).getD []++bs.filter fun b=>decide (fk b=k) by
  have:=this bs []
  simpa [grp,Kd9] using this
 intro bs;induction bs with
 | nil=>intro m; simp
 | cons b bs ih=>
  intro m;simp only [fB];rw [ih];have e:Ye (Jaq fk b m) k=if k=fk b then some (((Ye m (fk b)).getD [])++[b]) else Ye m k:=by
   unfold Jaq;rw [Ki6,Kb7 fk]
  rw [e]
  by_cases h:k=fk b
  ·subst h;simp
  ·rw [if_neg h,List.filter_cons_of_neg (by simpa using fun q=>h q.symm)]
theorem Jrx{k k':Int}(h:k'≠k):∀ m:List (Int×List Jk),Ye (Jpz k m) k'=Ye m k'
 | []=>rfl
 | e::es=>by
  have ih:=Jrx h es;unfold Jpz
  by_cases hk:k=e.1
  ·rw [if_pos hk];unfold Ye;have:¬ k'=e.1:=fun q=>h (q.trans hk.symm);simp [dW,this]
  ·rw [if_neg hk];unfold Ye at ih ⊢;simp only [dW]
   by_cases h2:k'=e.1
   ·simp [h2]
   ·simp only [h2,decide_false];exact ih
theorem Jrp(en B:Int)(m:List (Int×List Jk))(s:Jb)(e:Jt)(L:List Jk)(hm:(Ye m s.El).getD []=L)(hLl:L.length<=1000)(hB:-2147483648<=B/\B<=2147483648)(he:0<=e.Length/\e.Length<=1000000)(hoff:∀ b∈L,0<=b.Offset/\b.Offset<=1000000)(acc:List Jd)(hacc:acc.length<=10000) :
  Jp (Ek en B m s e) (0,acc)=some (.inl (acc++Ex en e s B L)):=by
 suffices Is (Jp (Ek en B m s e) (0,acc)) fun o=>o=.inl (acc++Ex en e s B L) by obtain ⟨o,h,rfl⟩:=this; exact h
 have hb:∀ i,(acc++Ex en e s B (L.take i)).length<=20000:=fun i=>by
  have:=Jkv en e s B (L.take i);simp only [aH,aT] at *; omega
 refine Is.loop (mk:=fun (i:Nat) (x:List Jd)=>((i:Int),x)) L.length (fun i x=>x=acc++Ex en e s B (L.take i)) acc (by simp [Ex]) ?_ ?_
 ·rintro i x hi rfl;have hx:L[i]? = some L[i]:=aB hi;have hof:=hoff L[i] (List.getElem_mem hi);unfold Ek;simp only [hm];refine Is.inb hi ?_;have hnext:Ex en e s B (L.take (i+1))=Ex en e s B (L.take i)++(if atE e s B L[i]<=en then [Jxi e s B L[i]] else []):=by
   unfold Ex;rw [Qw hx,cL,cS];congr 1
   by_cases hc:atE e s B L[i]<=en <;> simp [hc,Jxi]
  refine Is.onInl (θ:=fun o=>o=.inl (acc++Ex en e s B (L.take (i+1)))) ?_ (fun v hv=>Is.val ⟨acc++Ex en e s B (L.take (i+1)),by cases hv; rw [Zi oG],rfl⟩) (fun b hb=>by cases hb);refine Is.at hx ?_;have hat:(bif decide (s.In=1) then some (.inl (w64 ((w64 (B+e.Length)) - L[i].Offset))) else some (.inl (w64 (B+L[i].Offset))):Option (Int⊕(List Jd⊕((Int×List Jd)⊕(List Jd⊕((List Jd×List (Int×List Jk))⊕((Int×Int×List (Int×List Jk)×List Jd)⊕(List Jd⊕List Jd))))))))=some (.inl (atE e s B L[i])):=by
   unfold atE
   by_cases h1:s.In=1
   ·rw [decide_eq_true h1,cond_true,if_pos h1,Qt (n:=B+e.Length) oG oG,Qt oG oG]
   ·rw [decide_eq_false h1,cond_false,if_neg h1,Qt oG oG]
  rw [hat];simp only [onInl,Vm,aA];rw [hnext];refine Is.ite (p:=atE e s B L[i]<=en) Km (fun hc=>?_) (fun hc=>Is.val ?_)
  ·rw [if_pos hc];refine Is.bind (Is.app ?_) fun M hM=>Is.val ?_
   ·have:=hb i;simp only [aE,aF,Js,Enc.b]; omega
   ·rw [hM,bC]; rfl
  ·rw [if_neg hc,bE]
 ·rintro x rfl;unfold Ek;simp only [hm];refine Is.oub (Is.val ?_);rw [aR]
theorem Jrk{l:Ja}(h:Sm l)(hO:OkL l){way:List Jb}(hv:Vo l way){o:Int}(ho:-1073741824<=o/\o<=1073741824)(en:Int) :
  ∃ M,Bb l way o en=some M/\M.Perm (Yt l en o way)/\M.Pairwise leL:=by
 have hw:=hv.2.1;have hbl:l.Balises.length<=24:=by have:=hO.counts; unfold Hj at this; omega
 obtain ⟨r,hr,hri⟩:=Xf l way h.jo oG;unfold Bb;rw [hr,hri.2 hv];have hgo:Jpn (fun (x:Jk)=>x.El) l.Balises=some (grp (fun (x:Jk)=>x.El) l.Balises):=by
  unfold Jpn;rw [if_pos ⟨by omega,by decide⟩]
 simp only [aA,aX,cond_false,hgo];have hloop:Is (Jp (Il l way en) (o,0,grp (fun (x:Jk)=>x.El) l.Balises,([]:List Jd))) fun q=>q=.inl (Yt l en o way):=by
  refine Is.loop (mk:=fun (i:Nat) (x:Int×List (Int×List Jk)×List Jd)=>(x.1,(i:Int),x.2.1,x.2.2)) way.length
   (fun i x=>x.1=o+Uf l (way.take i)/\(∀ j s,i<=j->way[j]? = some s->(Ye x.2.1 s.El).getD []=Jax l s.El)/\x.2.2=Yt l en o (way.take i)) (o,grp (fun (x:Jk)=>x.El) l.Balises,[]) ⟨by simp [Uf],fun j s _ _=>Kig _ _ _,by simp [Yt]⟩ ?_ ?_
  ·rintro i ⟨B,m,acc⟩ hi ⟨hB,hm,hacc⟩;simp only at hB hm hacc;have hs:way[i]? = some way[i]:=aB hi;obtain ⟨e,e1,e2,e3,e4,e5,e6⟩:=Jc0 hO hv hs;have hsum:=Sz hO hv i oG;have hlen:=e5.2.1;have hBb:-2147483648<=B/\B<=2147483648:=by omega
   have hal:acc.length<=10000:=by
    have:=Jim l en (way.take i) o;rw [hacc];refine bG this ?_;have:(way.take i).length * l.Balises.length<=64 * 24:=Nat.mul_le_mul (by simp; omega) hbl;omega
   have hnB:o+Uf l (way.take (i+1))=B+e.Length:=by
    rw [Vp hs,Yl];simp only [Uf,eG,e4]; omega
   unfold Il;refine Is.inb hi (Is.at hs ?_);have hel:(decide (way[i].El<0))=false/\(decide (((l.Elements.length:Nat):Int)<=way[i].El))=false:=by
    unfold Um at e3;simp only [aI,decide_eq_true_eq] at e3;exact ⟨decide_eq_false oG,decide_eq_false oG⟩
   rw [hel.1,hel.2];simp only [cond_false,aA,e1,Jju];have hstep:Sp l en B way[i]=if Jdm e.Kind way[i]=true then Ex en e way[i] B (Jax l way[i].El) else []:=by
    unfold Sp; rw [e2]
   have hoff:∀ b∈Jax l way[i].El,0<=b.Offset/\b.Offset<=1000000:=fun b hb=>by
    obtain ⟨q1,q2⟩:=List.mem_filter.1 hb;have q2:b.El=way[i].El:=by simpa using q2
    obtain ⟨_,_,_,k1,k2⟩:=hO.bal b q1;rw [q2] at k2;unfold Jdq at k2;rw [e2] at k2;simp only [bH,eH] at k2;exact ⟨k1,by omega⟩
   have hlk:Yt l en o (way.take (i+1))=acc++Sp l en B way[i]:=by
    rw [Vp hs,Jgf,<- hacc,<- hB]
   refine Is.onInl (θ:=fun q=>∃ m',q=.inl (acc++Sp l en B way[i],m')/\∀ j s,i+1<=j->way[j]? = some s->(Ye m' s.El).getD []=Jax l s.El) ?_ ?_ (fun b hb=>by obtain ⟨m',hb,_⟩:=hb; cases hb)
   ·cases hp:Jdm e.Kind way[i] with
    | true=>
     rw [hp,if_pos rfl] at hstep;simp only [cond_true];rw [Jrp en B m way[i] e (Jax l way[i].El) (hm i way[i] (aJ _) hs) (by have:=bZ (fun b:Jk=>decide (b.El=way[i].El)) l.Balises; unfold Jax; omega) hBb ⟨by omega,by omega⟩ hoff acc hal,<- hstep];simp only [onInl,Vm,aA];refine Is.val ⟨_,rfl,fun j s hj hjs=>?_⟩;rw [Jrx (fun q=>?_)]
     ·exact hm j s oG hjs
     ·have:=hv.apart hjs hs q; omega
    | false=>
     rw [hp] at hstep;simp only [cond_false];refine Is.val ⟨m, ?_,fun j s hj hjs=>hm j s oG hjs⟩;rw [hstep]; simp
   ·rintro ⟨v1,v2⟩ ⟨m',hvv,hm'⟩;cases hvv;refine Is.val ⟨(w64 (B+e.Length),v2,acc++Sp l en B way[i]),by rw [Zi oG], ?_,hm', ?_⟩
    ·show w64 (B+e.Length)=_;rw [Qt oG oG,hnB]
    ·exact hlk.symm
  ·rintro ⟨B,m,acc⟩ ⟨hB,hm,hacc⟩;simp only at hacc;unfold Il;refine Is.oub (Is.val ?_);rw [hacc,aR]
 obtain ⟨q,hq,rfl⟩:=hloop;obtain ⟨M,m1,m2,m3⟩:=Jrt (Yt l en o way) (by have:=Jpy hO hv en o; omega);refine ⟨M, ?_,m2,m3⟩;rw [hq];simp only [onInl,Vm,aA,m1]
theorem Jo4{l:Ja}(h:Sm l){way:List Jb}(hw:way.length<=1048576)(hv:¬ Vo l way)(o en:Int):Bb l way o en=some []:=by
 obtain ⟨r,hr,hri⟩:=Xf l way h.jo hw;unfold Bb;cases r with
 | true=>exact absurd (hri.1 rfl) hv
 | false=>rw [hr]; rfl
theorem Jg9 : ∀ {A B:List Jd},A.Perm B->A.Pairwise leL->B.Pairwise leL->A=B
 | [],B,h,_,_=>(List.Perm.nil_eq h)
 | a::A,[],h,_,_=>by have:=h.length_eq; simp at this
 | a::A,b::B,h,hA,hB=>by
  rw [cR] at hA hB;have e:a=b:=by
   have h1:a∈b::B:=h.subset sG;have h2:b∈a::A:=h.symm.subset sG;rcases bD.1 h1 with e|h1
   ·exact e
   ·rcases bD.1 h2 with e|h2
    ·exact e.symm
    ·exact Juj (hA.1 b h2) (hB.1 a h1)
  subst e;rw [Jg9 (List.Perm.cons_inv h) hA.2 hB.2]
theorem Kcv(x y:Jd):Ir x y=some (decide (ltL x y)):=by
 unfold Ir;congr 1;rw [dA,decide_eq_true_iff];unfold ltL;simp
theorem Kki{L:List Jd}(x:Jd)(hL:L.length<=10000)(hs:L.Pairwise leL):∃ r,Ph L x=some r/\r.Perm (x::L)/\r.Pairwise leL:=by
 suffices Is (Ph L x) fun r=>r.Perm (x::L)/\r.Pairwise leL by obtain ⟨r,h1,h2⟩:=this; exact ⟨r,h1,h2⟩
 unfold Ph;refine Is.onInl (θ:=fun o=>∃ out d,o=.inl (out,d)/\((d=false/\out=L/\∀ y∈L,leL y x)\/(d=true/\out.Perm (x::L)/\out.Pairwise leL))/\out.length<=10001) ?_ ?_ (fun b hb=>by obtain ⟨_,_,hb,_⟩:=hb; cases hb)
 ·refine Is.loop (mk:=fun (i:Nat) (z:Bool×List Jd)=>(z.1,(i:Int),z.2)) L.length
   (fun i z=>(z.1=false/\z.2=L.take i/\∀ y∈L.take i,leL y x)\/(z.1=true/\∃ k,k<i/\z.2=L.take k++x::(L.take i).drop k/\(∀ y∈L.take k,leL y x)/\∃ y,L[k]? = some y/\ltL x y)) (false,[]) (.inl ⟨rfl,rfl,by simp⟩) ?_ ?_
  ·rintro i ⟨d,out⟩ hi hI;have hy:L[i]? = some L[i]:=aB hi;have holen:out.length<=i+1:=by
    rcases hI with ⟨_,rfl,_⟩|⟨_,k,k1,rfl,_⟩
    ·simp; omega
    ·simp; omega
   unfold Ti;refine Is.inb hi ?_;refine Is.onInl (θ:=fun o=>∃ out' d',o=.inl (out',d')/\out'.length<=i+2/\((d'=false/\out'++[L[i]]=L.take (i+1)/\∀ y∈L.take (i+1),leL y x)\/(d'=true/\∃ k,k<i+1/\out'++[L[i]]=L.take k++x::(L.take (i+1)).drop k/\(∀ y∈L.take k,leL y x)/\∃ y,L[k]? = some y/\ltL x y))) ?_ ?_ (fun b hb=>by obtain ⟨_,_,hb,_⟩:=hb; cases hb)
   ·rw [Vc hy];simp only [aA,Kcv,Jew,dF];rcases hI with ⟨hd,ho,hl⟩|⟨hd,k,k1,ho,k3,k4⟩
    ·simp only at hd ho;subst hd; subst ho;refine Is.ite (p:=ltL x L[i]) sG (fun hc=>?_) (fun hc=>?_)
     ·refine Is.bind (Is.app ?_) fun M hM=>Is.val ⟨M,true,rfl, ?_,.inr ⟨rfl,i,by omega, ?_,hl,L[i],hy,hc⟩⟩
      ·simp only [aE,aF,aT,Js,Enc.b]; omega
      ·rw [hM]; simp; omega
      ·rw [hM,Qw hy,dG (by simp; omega),List.drop_of_length_le (by rw [aT]; omega)];simp
     ·refine Is.val ⟨L.take i,false,rfl,by simp; omega,.inl ⟨rfl,(Qw hy).symm,fun y hyy=>?_⟩⟩;rw [Qw hy] at hyy;rcases aY.1 hyy with q|q
      ·exact hl y q
      ·simp at q; subst q; exact hc
    ·simp only at hd ho;subst hd;simp only [aX,fE,cond_false];refine Is.val ⟨out,true,rfl,by omega,.inr ⟨rfl,k,by omega, ?_,k3,k4⟩⟩;rw [ho,Qw hy,dG (by simp; omega)];simp
   ·rintro ⟨v1,v2⟩ ⟨out',d',hv,hlen,hcase⟩;cases hv;refine Is.at hy (Is.bind (Is.app ?_) fun M hM=>?_)
    ·simp only [aE,aF,Js,Enc.b]; omega
    ·refine Is.val ⟨(v2,M),by rw [Zi oG], ?_⟩;rw [hM];exact hcase
  ·rintro ⟨d,out⟩ hI;unfold Ti;refine Is.oub (Is.val ⟨out,d,rfl, ?_, ?_⟩)
   ·rcases hI with ⟨hd,ho,hl⟩|⟨hd,k,k1,ho,k3,y,k4,k5⟩
    ·rw [aR] at ho hl;exact .inl ⟨hd,ho,hl⟩
    ·rw [aR] at ho;simp only at ho;refine .inr ⟨hd, ?_, ?_⟩
     ·rw [ho];refine eU.trans ?_;rw [bB]
     ·have hs':=hs;rw [<- bB k L,aZ] at hs';rw [ho,aZ,cR];refine ⟨hs'.1,⟨fun z hz=>?_,hs'.2.1⟩,fun a ha b hb=>?_⟩
      ·obtain ⟨j,j1,j2⟩:=Jdt hz;exact Lw (Jbj k5) (Lk hs j1 k4 j2)
      ·rcases bD.1 hb with rfl|hb
       ·exact k3 a ha
       ·exact hs'.2.2 a ha b hb
   ·rcases hI with ⟨_,ho,_⟩|⟨_,k,k1,ho,_⟩
    ·simp only at ho; rw [ho]; simp; omega
    ·simp only at ho; rw [ho]; simp; omega
 ·rintro ⟨v1,v2⟩ ⟨out,d,hv,hcase,hlen⟩;cases hv;rcases hcase with ⟨hd,rfl,hl⟩|⟨hd,h1,h2⟩
  ·subst hd;simp only [cH,cond_true];refine Is.onInl (θ:=fun o=>o=.inl (v1++[x])) (Is.bind (Is.app ?_) fun M hM=>Is.val (by rw [hM])) (fun v hv=>?_) (fun b hb=>by cases hb)
   ·simp only [aE,aF,Js,Enc.b]; omega
   ·cases hv;refine Is.val ⟨?_, ?_⟩
    ·simp
    ·rw [aZ];exact ⟨hs,by simp,fun a ha b hb=>by simp at hb; subst hb; exact hl a ha⟩
  ·subst hd;simp only [aX,cond_false,onInl,Vm,aA];exact Is.val ⟨h1,h2⟩
theorem Jvp{l:Ja}(hO:OkL l){way:List Jb}(hv:Vo l way)(en B:Int)(hB:-2147483648<=B/\B<=2147483648){i:Nat}{s:Jb}(hs:way[i]? = some s){e:Jt}(he:l.Elements[s.El.toNat]? = some e)(hr:Jdl l e)(hn:(Pi e.Kind s.In s.Out).2=true)(out0:List Jd)(h0:out0.length<=5000)(hs0:out0.Pairwise leL) :
  ∃ out,Jp (Ll l way en B (i:Int) e) (out0,0)=some (.inl out)/\out.Perm (out0++Sp l en B s)/\out.Pairwise leL:=by
 have hbl:l.Balises.length<=24:=by have:=hO.counts; unfold Hj at this; omega
 have hlen:=hr.2.1
 suffices Is (Jp (Ll l way en B (i:Int) e) (out0,0)) fun o=>∃ out,o=.inl out/\out.Perm (out0++Sp l en B s)/\out.Pairwise leL by
  obtain ⟨o,h,out,rfl,h1,h2⟩:=this; exact ⟨out,h,h1,h2⟩
 have hst:Sp l en B s=if Jdm e.Kind s=true then Ex en e s B (Jax l s.El) else []:=by unfold Sp; rw [he]
 let part:=fun k:Nat=>if Jdm e.Kind s=true then Ex en e s B ((l.Balises.take k).filter fun b=>decide (b.El=s.El)) else []
 have hpl:∀ k,(part k).length<=24:=fun k=>by
  show (if Jdm e.Kind s=true then Ex en e s B ((l.Balises.take k).filter fun b=>decide (b.El=s.El)) else []).length<=24;split
  ·refine bG (Jkv _ _ _ _ _) (bG (bZ _ _) ?_);simp; omega
  ·simp
 refine Is.loop (mk:=fun (k:Nat) (z:List Jd)=>(z,(k:Int))) l.Balises.length (fun k z=>z.Perm (out0++part k)/\z.Pairwise leL) out0 ⟨?_,hs0⟩ ?_ ?_
 ·have:part 0=[]:=by
   show (if Jdm e.Kind s=true then Ex en e s B (([]:List Jk).filter fun b=>decide (b.El=s.El)) else [])=[];split <;> simp [Ex]
  rw [this,bE]
 ·rintro k z hk ⟨hz,hzs⟩;have hb:l.Balises[k]? = some l.Balises[k]:=aB hk;obtain ⟨_,_,_,k1,k2⟩:=hO.bal _ (List.getElem_mem hk);unfold Ll;refine Is.inb hk ?_;have hzl:z.length<=6000:=by rw [hz.length_eq,aH]; have:=hpl k; omega
  refine Is.onInl (θ:=fun o=>∃ z',o=.inl z'/\z'.Perm (out0++part (k+1))/\z'.Pairwise leL) ?_ (fun v hv'=>?_) (fun b hb=>by obtain ⟨_,hb,_⟩:=hb; cases hb)
  ·refine Is.at hb ?_;rw [Vc hs];simp only [aA,Jm8 hn,Jew,dF]
   by_cases hel:l.Balises[k].El=s.El
   ·rw [hel] at k2;unfold Jdq at k2;rw [he] at k2;simp only [bH,eH] at k2;have hpl2:∃ q,Dv e s l.Balises[k]=some q/\w64 (B+q)=atE e s B l.Balises[k]:=by
     unfold Dv atE
     by_cases h1:s.In=1
     ·refine ⟨_,by rw [decide_eq_true h1]; rfl, ?_⟩;rw [if_pos h1,Qt (n:=e.Length - l.Balises[k].Offset) oG oG,Qt oG oG]; omega
     ·refine ⟨_,by rw [decide_eq_false h1]; rfl, ?_⟩;rw [if_neg h1,Qt oG oG]
    obtain ⟨q,hq,hat⟩:=hpl2;rw [hq];simp only [aA,hat,decide_eq_true hel,eZ];have hpart:part (k+1)=part k++(if Jdm e.Kind s=true/\atE e s B l.Balises[k]<=en then [Jxi e s B l.Balises[k]] else []):=by
     show (if Jdm e.Kind s=true then Ex en e s B ((l.Balises.take (k+1)).filter fun b=>decide (b.El=s.El)) else [])=(if Jdm e.Kind s=true then Ex en e s B ((l.Balises.take k).filter fun b=>decide (b.El=s.El)) else [])++_
     by_cases hp:Jdm e.Kind s=true
     ·rw [if_pos hp,if_pos hp,Qw hb,cS];unfold Ex;rw [cL,cS];congr 1;have e1:([l.Balises[k]].filter fun b=>decide (b.El=s.El))=[l.Balises[k]]:=by simp [hel]
      rw [e1]
      by_cases hc:atE e s B l.Balises[k]<=en <;> simp [hc,hp,Jxi]
     ·rw [if_neg hp,if_neg hp,if_neg (fun h=>hp h.1)]; rfl
    refine Is.ite (p:=Jdm e.Kind s=true/\atE e s B l.Balises[k]<=en) sG (fun hc=>?_) (fun hc=>?_)
    ·rw [if_pos hc] at hpart;obtain ⟨r,r1,r2,r3⟩:=Kki (Jd.mk l.Balises[k].Id (atE e s B l.Balises[k])) (by omega:z.length<=10000) hzs;rw [r1];simp only [aA];refine Is.val ⟨r,rfl, ?_,r3⟩;rw [hpart,<- bC];refine r2.trans ((List.Perm.cons _ hz).trans ?_);exact (List.perm_append_comm (l₁:=[Jxi e s B l.Balises[k]]) (l₂:=out0++part k))
    ·rw [if_neg hc,bE] at hpart;exact Is.val ⟨z,rfl,by rw [hpart]; exact hz,hzs⟩
   ·have hpart:part (k+1)=part k:=by
     show (if Jdm e.Kind s=true then Ex en e s B ((l.Balises.take (k+1)).filter fun b=>decide (b.El=s.El)) else [])=(if Jdm e.Kind s=true then Ex en e s B ((l.Balises.take k).filter fun b=>decide (b.El=s.El)) else []);rw [Qw hb,cS];have e1:([l.Balises[k]].filter fun b=>decide (b.El=s.El))=[]:=by simp [hel]
     rw [e1,bE]
    have hq:∃ q,Dv e s l.Balises[k]=some q:=by
     unfold Dv;cases decide (s.In=1) <;> exact ⟨_,rfl⟩
    obtain ⟨q,hq⟩:=hq;rw [hq];simp only [aA,decide_eq_false hel,fE,cond_false];exact Is.val ⟨z,rfl,by rw [hpart]; exact hz,hzs⟩
  ·obtain ⟨z',hz',hz2⟩:=hv';cases hz';exact Is.val ⟨v,by rw [Zi oG],hz2⟩
 ·rintro z ⟨hz,hzs⟩;unfold Ll;refine Is.oub (Is.val ⟨z,rfl, ?_,hzs⟩);rw [hst];have:part l.Balises.length=if Jdm e.Kind s=true then Ex en e s B (Jax l s.El) else []:=by
   show (if Jdm e.Kind s=true then Ex en e s B ((l.Balises.take l.Balises.length).filter fun b=>decide (b.El=s.El)) else [])=_;rw [aR]; rfl
  rw [<- this]; exact hz
theorem Jv8{l:Ja}(h:Sm l)(hO:OkL l){way:List Jb}(hv:Vo l way){o:Int}(ho:-1073741824<=o/\o<=1073741824)(en:Int) :
  ∃ M,Oe l way o en=some M/\M.Perm (Yt l en o way)/\M.Pairwise leL:=by
 have hw:=hv.2.1;have hbl:l.Balises.length<=24:=by have:=hO.counts; unfold Hj at this; omega
 obtain ⟨r,hr,hri⟩:=Et l way h.jo oG;unfold Oe;rw [hr,hri.2 hv];simp only [aA,aX,cond_false]
 suffices Is (Jp (Rs l way en) (o,0,([]:List Jd))) fun q=>∃ M,q=.inl M/\M.Perm (Yt l en o way)/\M.Pairwise leL by
  obtain ⟨q,hq,M,rfl,h1,h2⟩:=this;exact ⟨M,by rw [hq]; rfl,h1,h2⟩
 refine Is.loop (mk:=fun (i:Nat) (x:Int×List Jd)=>(x.1,(i:Int),x.2)) way.length (fun i x=>x.1=o+Uf l (way.take i)/\x.2.Perm (Yt l en o (way.take i))/\x.2.Pairwise leL) (o,[]) ⟨by simp [Uf],by simp [Yt],List.Pairwise.nil⟩ ?_ ?_
 ·rintro i ⟨B,out⟩ hi ⟨hB,hp,hps⟩;simp only at hB hp hps;have hs:way[i]? = some way[i]:=aB hi;obtain ⟨e,e1,e2,e3,e4,e5,e6⟩:=Jc0 hO hv hs;have hsum:=Sz hO hv i oG;have hlen:=e5.2.1;have hol:out.length<=5000:=by
   rw [hp.length_eq];refine bG (Jim l en (way.take i) o) ?_;have:(way.take i).length * l.Balises.length<=64 * 24:=Nat.mul_le_mul (by simp; omega) hbl;omega
  have hnB:o+Uf l (way.take (i+1))=B+e.Length:=by
   rw [Vp hs,Yl];simp only [Uf,eG,e4]; omega
  obtain ⟨out',q1,q2,q3⟩:=Jvp hO hv en B oG hs e2 e5 e6 out hol hps;unfold Rs;refine Is.inb hi (Is.at hs ?_);rw [e1];simp only [aA];rw [q1];simp only [onInl,Vm,aA];refine Is.val ⟨(w64 (B+e.Length),out'),by rw [Zi oG], ?_, ?_,q3⟩
  ·show w64 (B+e.Length)=_;rw [Qt oG oG,hnB]
  ·show out'.Perm _;rw [Vp hs,Jgf,<- hB];exact q2.trans (hp.append_right _)
 ·rintro ⟨B,out⟩ ⟨hB,hp,hps⟩;unfold Rs;refine Is.oub (Is.val ⟨out,rfl, ?_,hps⟩);rw [aR] at hp;exact hp
theorem Jor{l:Ja}(h:Sm l)(hO:OkL l){way:List Jb}(hw:way.length<=80){o:Int}(ho:-1073741824<=o/\o<=1073741824)(en:Int) :
  ∃ M,Bb l way o en=some M/\Oe l way o en=some M/\((Vo l way/\M.Perm (Yt l en o way)/\M.Pairwise leL)\/(¬ Vo l way/\M=[])):=by
 by_cases hv:Vo l way
 ·obtain ⟨M,m1,m2,m3⟩:=Jrk h hO hv ho en;obtain ⟨M',n1,n2,n3⟩:=Jv8 h hO hv ho en;have:M'=M:=Jg9 (n2.trans m2.symm) n3 m3;subst this;exact ⟨M',m1,n1,.inl ⟨hv,m2,m3⟩⟩
 ·refine ⟨[],Jo4 h oG hv o en, ?_,.inr ⟨hv,rfl⟩⟩;obtain ⟨r,hr,hri⟩:=Et l way h.jo oG;unfold Oe;cases r with
  | true=>exact absurd (hri.1 rfl) hv
  | false=>rw [hr]; rfl
def Jc6(x:Jc):Prop:=-1073741824<=x.From/\x.From<x.To/\x.To<=1073741824 /\ -50<=x.Grade/\x.Grade<=50/\1<=x.Speed/\x.Speed<=10000
def Jzy(p:List Jc)(i:Nat)(x:Jc):Prop:=Jc6 x/\∀ y,0<i->p[i - 1]? = some y->x.From=y.To
def Lz(p:List Jc):Prop:=p.length<=128/\∀ i x,p[i]? = some x->Jzy p i x
theorem Eo(p:List Jc):Is (Vu p) fun b=>b=true↔Lz p:=by
 unfold Vu;refine Is.ite (p:=128<p.length) (by rw [decide_eq_true_iff]; omega) (fun h=>Is.val (iff_of_false bI fun q=>absurd q.1 oG)) (fun h=>?_);refine Is.all (L:=p) (fun i x=>Jzy p i x) () oG (fun i x hx hi _=>?_) (by simp [Ho]) (fun hn=>Is.val (iff_of_true rfl ⟨by omega,hn⟩));unfold Ho;refine Is.inb hi (Is.at hx ?_);simp only [Vs,aA,Jew,bK];refine Is.ite (p:=¬ Jc6 x) (by unfold Jc6; simp only [bP,bL,dS,decide_eq_false_iff_not,decide_eq_true_eq]; omega) (fun hb=>Is.val (iff_of_false bI fun q=>hb (q.2 i x hx).1)) (fun hb=>?_);refine Is.bind (Jnr hi oG (f:=fun y=> !(decide (x.From=y.To))) (q:=fun y=>x.From=y.To) fun y=>by simp) fun b hb2=>?_;rw [<- Jew];refine Is.ite hb2 (fun hc=>?_) (fun hc=>?_)
 ·exact Is.val (iff_of_false bI fun q=>hc (q.2 i x hx).2)
 ·exact Is.val ⟨rfl,bA.1 hb,bA.1 hc⟩
theorem Ij{p:List Jc}(h:p.length<=1048576):Is (Wo p) fun b=>b=true↔Lz p:=by
 unfold Wo;refine Is.all (L:=p) (fun i x=>Jzy p i x) () oG (fun i x hx hi _=>?_) (by simp [Nk]) (fun hn=>Is.val ?_)
 ·unfold Nk;refine Is.inb hi (Is.at hx ?_);refine Is.bind (φ:=fun b=>b=true↔¬ Jzy p i x) ?_ fun b hb=>Is.ite hb (fun hc=>Is.val (iff_of_false bI fun q=>hc (q.2 i x hx))) (fun hc=>Is.val ⟨rfl,bA.1 hc⟩);refine (Is.or (p:=¬ Jc6 x) (q:=¬ ∀ y,0<i->p[i - 1]? = some y->x.From=y.To) (by unfold Jc6; simp only [bP,decide_eq_true_eq]; omega) fun _=>?_).iff ?_
  ·refine Is.bind (Jnr hi h (f:=fun y=> !(decide (y.To=x.From))) (q:=fun y=>x.From=y.To) fun y=>by simp only [bL,decide_eq_false_iff_not]; exact not_congr eq_comm) fun b hb=>Is.val hb
  ·unfold Jzy; rw [Classical.not_and_iff_not_or_not]
 ·rw [decide_eq_true_iff];exact ⟨fun q=>⟨by omega,hn⟩,fun q=>by have:=q.1; omega⟩
def Kjt(a:Ka):Prop:=((1<=a.Seq/\a.Seq<=1073741824)/\Lz a.Profile)/\(∃ y,a.Profile[a.Profile.length - 1]? = some y/\y.To=a.End)/\Kkk a.Links
theorem Kbr{a:Ka}(h:a.Profile.length<=1048576){b:Bool}{p:Prop}(hb:b=true↔p) :
  Is (bif (b&&(decide (0<((a.Profile.length:Nat):Int)))) then (ixO a.Profile (w64 (((a.Profile.length:Nat):Int) - 1))).bind fun x4=>some (decide (x4.To=a.End)) else some false) fun c=>c=true↔p/\∃ y,a.Profile[a.Profile.length - 1]? = some y/\y.To=a.End:=by
 refine (Is.and (p:=p/\0<a.Profile.length) (q:=∃ y,a.Profile[a.Profile.length - 1]? = some y/\y.To=a.End) (by rw [aI,hb,decide_eq_true_iff]; exact and_congr_right fun _=>by omega) fun hp=>?_).iff ?_
 ·have hg:a.Profile[a.Profile.length - 1]? = some a.Profile[a.Profile.length - 1]:=aB oG;rw [Qt oG oG,show ((a.Profile.length:Nat):Int) - 1=((a.Profile.length - 1:Nat):Int) by omega,Vc hg];refine Is.dec ⟨fun e=>⟨_,hg,e⟩,fun ⟨y,hy,e⟩=>by rw [hg] at hy; cases hy; exact e⟩
 ·refine ⟨fun q=>⟨q.1.1,q.2⟩,fun q=>⟨⟨q.1, ?_⟩,q.2⟩⟩;obtain ⟨y,hy,_⟩:=q.2;have:=(aG.1 hy).1; omega
theorem Jiw{a:Ka}(h:a.Profile.length<=1048576):Is (Di a) fun b=>b=true↔Kjt a:=by
 unfold Di;simp only [Jej];refine Is.bind (Is.and (p:=1<=a.Seq/\a.Seq<=1073741824) (q:=Lz a.Profile) sG fun _=>Eo _) fun b hb=>?_;refine Is.bind (Kbr h hb) fun c hc=>?_;exact (Is.and hc fun _=>Jlh a.Links).iff ⟨fun q=>⟨q.1.1,q.1.2,q.2⟩,fun q=>⟨⟨q.1,q.2.1⟩,q.2.2⟩⟩
theorem Joj{a:Ka}(h:a.Profile.length<=1048576):Is (Mi a) fun b=>b=true↔Kjt a:=by
 unfold Mi;simp only [Jej];refine Is.bind (Is.and (p:=1<=a.Seq/\a.Seq<=1073741824) (q:=Lz a.Profile) sG fun _=>Ij h) fun b hb=>?_;refine Is.bind (Kbr h hb) fun c hc=>?_;exact (Is.and hc fun _=>Jok a.Links).iff ⟨fun q=>⟨q.1.1,q.1.2,q.2⟩,fun q=>⟨⟨q.1,q.2.1⟩,q.2.2⟩⟩
theorem Kld(x y:Jc):Td x y=true↔x=y:=by cases x; cases y; simp [Td]
theorem Jri{p q:List Jc}(h:p.length<=1048576):Is (Ja8 p q) fun b=>b=true↔p=q:=Jgx Kld h fun _=>rfl
theorem Lz.ok{p:List Jc}(h:Lz p){i:Nat}{x:Jc}(hx:p[i]? = some x):Jc6 x:=(h.2 i x hx).1
def Jft : Int->List Jc->Int->Prop
 | a,[],b=>a=b
 | a,s::p,b=>s.From=a/\Jc6 s/\Jft s.To p b
theorem Jft.get : ∀ {p:List Jc} {a b:Int},Jft a p b->∀ {i:Nat} {x:Jc},p[i]? = some x->Jzy p i x
 | [],_,_,_,i,x,h=>by simp at h
 | s::p,a,b,hc,0,x,h=>by
  simp at h; subst h;exact ⟨hc.2.1,fun y h0=>by omega⟩
 | s::p,a,b,hc,i+1,x,h=>by
  have h':p[i]? = some x:=by simpa using h
  obtain ⟨h1,h2⟩:=Jft.get hc.2.2 h';refine ⟨h1,fun y _ hy=>?_⟩;rw [dQ] at hy;cases i with
  | zero=>
   simp at hy; subst hy;cases p with
   | nil=>simp at h'
   | cons u p=>simp at h'; subst h'; exact hc.2.2.1
  | succ i=>exact h2 y oG (by simpa using hy)
theorem Kbm : ∀ {p:List Jc},(∀ i x,p[i]? = some x->Jzy p i x)->∀ {f l:Jc},p[0]? = some f->p[p.length - 1]? = some l->Jft f.From p l.To
 | [],_,f,l,hf,_=>by simp at hf
 | [s],h,f,l,hf,hl=>by
  simp at hf hl; subst hf; subst hl;exact ⟨rfl,(h 0 _ rfl).1,rfl⟩
 | s::u::p,h,f,l,hf,hl=>by
  simp at hf; subst hf;have h1:=(h 1 u rfl).2 s oG rfl;have ih:=Kbm (p:=u::p) (fun i x hx=>by
   obtain ⟨q1,q2⟩:=h (i+1) x (by simpa using hx);refine ⟨q1,fun y h0 hy=>q2 y oG ?_⟩;rw [dQ];obtain ⟨j,rfl⟩:=eQ (Nat.pos_iff_ne_zero.1 h0)
   simpa using hy) (f:=u) (l:=l) rfl (by simpa using hl)
  exact ⟨rfl,(h 0 s rfl).1,by rw [<- h1]; exact ih⟩
def Jcs(f t:Int)(s:Jc):Jc:=⟨max s.From f,min s.To t,s.Grade,s.Speed⟩
def Ru(p:List Jc)(f t:Int):List Jc:=(p.filter fun s=>decide (max s.From f<min s.To t)).map (Jcs f t)
theorem Jo0{p:List Jc}(h:Lz p)(f t:Int):Bj p f t=some (Ru p f t):=by
 suffices Is (Bj p f t) fun r=>r=Ru p f t by obtain ⟨r,h,rfl⟩:=this; exact h
 unfold Bj;obtain ⟨b,h1,h2⟩:=Eo p;rw [h1,h2.2 h];have hl:=h.1;have hlen:∀ i,(Ru (p.take i) f t).length<=i:=fun i=>by
  unfold Ru;rw [aV];exact bG (bZ _ _) (by simp; omega)
 simp only [aA,aX,cond_false];refine Is.fold (L:=p) (mk:=fun i (m:List Jc)=>(i,m)) (fun i m=>m=Ru (p.take i) f t) [] oG rfl (fun i x m hx hi hI=>?_) (fun m hI=>?_)
 ·subst hI;unfold Nr;refine Is.inb hi ?_;refine Is.onInl (θ:=fun o=>o=.inl (Ru (p.take (i+1)) f t)) (Is.at hx ?_) (fun v hv=>Is.val ⟨Ru (p.take (i+1)) f t,by cases hv; rfl,rfl⟩) (fun b hb=>by cases hb);have ht:Ru (p.take (i+1)) f t=Ru (p.take i) f t++(if max x.From f<min x.To t then [Jcs f t x] else []):=by
   rw [Qw hx];unfold Ru;rw [cS,cL];congr 1
   by_cases hc:max x.From f<min x.To t <;> simp [hc]
  simp only [Yh,aA];refine Is.ite (p:=max x.From f<min x.To t) Km (fun hb=>?_) (fun hb=>Is.val ?_)
  ·rw [if_pos hb] at ht;refine Is.bind (Is.app ?_) fun M hM=>Is.val ?_
   ·have:=hlen i;simp only [aE,aF,Js,Enc.b]; omega
   ·rw [hM,ht]; rfl
  ·rw [ht,if_neg hb,bE]
 ·subst hI;unfold Nr;refine Is.oub (Is.val ?_);rw [aR];exact Is.val rfl
def Kc7(e:Jt)(s:Jb):Int:=if s.In=0\/(s.In=2/\e.Kind=3) then e.Grade else -e.Grade
def Kby(e:Jt)(s:Jb):Int:=if e.Kind=2/\(s.In=2\/s.Out=2) then e.Slow else e.Speed
def Kgs(e:Jt)(s:Jb)(B:Int):Jc:=⟨B,B+e.Length,Kc7 e s,Kby e s⟩
def Jny(l:Ja)(B:Int)(s:Jb):List Jc :=
 match l.Elements[s.El.toNat]? with
 | some e=>[Kgs e s B]
 | none=>[]
def ofS(l:Ja):Int->List Jb->List Jc
 | _,[]=>[]
 | B,s::w=>Jny l B s++ofS l (B+lenOf l s) w
theorem Jpv(l:Ja)(s:Jb):∀ (w:List Jb) (B:Int),ofS l B (w++[s])=ofS l B w++Jny l (B+Uf l w) s
 | [],B=>by simp [ofS,Uf]
 | t::w,B=>by
  simp only [bO,ofS,Jpv l s w,bC,Uf];rw [eM]
theorem Kb5(l:Ja)(B:Int)(s:Jb):(Jny l B s).length<=1:=by
 unfold Jny; split <;> simp
theorem Jno(l:Ja):∀ (w:List Jb) (B:Int),(ofS l B w).length<=w.length
 | [],_=>by simp [ofS]
 | s::w,B=>by
  have h1:=Kb5 l B s;have h2:=Jno l w (B+lenOf l s);simp only [ofS,aH,aE]; omega
open Classical in
noncomputable def ofP(l:Ja)(o:Int)(w:List Jb):List Jc:=if Lz (ofS l o w) then ofS l o w else []
theorem Jvm : Lz []:=⟨by simp,fun i x h=>by simp at h⟩
theorem Juz(l:Ja)(o:Int)(w:List Jb):Lz (ofP l o w):=by
 unfold ofP; split
 ·assumption
 ·exact Jvm
theorem Ka8{l:Ja}{s:Jb}{e:Jt}(he:l.Elements[s.El.toNat]? = some e):∀ {w:List Jb} {B:Int} {i:Nat},w[i]? = some s->Kgs e s (B+Uf l (w.take i))∈ofS l B w
 | [],_,i,h=>by simp at h
 | t::w,B,0,h=>by
  simp at h; subst h;simp [ofS,Jny,he,Uf]
 | t::w,B,i+1,h=>by
  have:=Ka8 he (w:=w) (B:=B+lenOf l t) (i:=i) (by simpa using h);simp only [ofS,List.take_succ_cons,Uf,aY];rw [eM] at this;exact .inr this
def Jla(f t sp:Int)(s:Jc):List Jc :=
 if max s.From f<min s.To t then Ru [s] (-1073741824) f++(⟨max s.From f,min s.To t,s.Grade,min s.Speed sp⟩::Ru [s] t 1073741824) else [s]
def Xw(p:List Jc)(f t sp:Int):List Jc:=p.flatMap (Jla f t sp)
open Classical in
noncomputable def Lim(p:List Jc)(f t sp:Int):List Jc:=if Lz p/\1<=sp/\(Xw p f t sp).length<=128 then Xw p f t sp else []
theorem Xr(s:Jc)(f t:Int):Ru [s] f t=if max s.From f<min s.To t then [Jcs f t s] else []:=by
 unfold Ru; by_cases h:max s.From f<min s.To t <;> simp [h]
theorem Kdw(f t sp:Int)(s:Jc):1<=(Jla f t sp s).length/\(Jla f t sp s).length<=3:=by
 unfold Jla;rw [Xr,Xr];split
 ·split <;> split <;> simp
 ·simp
theorem Js0(p:List Jc)(s:Jc)(f t sp:Int):Xw (p++[s]) f t sp=Xw p f t sp++Jla f t sp s:=by simp [Xw]
theorem Jn7(f t sp:Int):∀ p:List Jc,p.length<=(Xw p f t sp).length/\(Xw p f t sp).length<=3 * p.length
 | []=>by simp [Xw]
 | s::p=>by
  have h1:=Kdw f t sp s;have h2:=Jn7 f t sp p;simp only [Xw,dY,aH,aE] at h2 ⊢;omega
theorem Jft.app : ∀ {p q:List Jc} {a b c:Int},Jft a p b->Jft b q c->Jft a (p++q) c
 | [],_,a,b,c,h,g=>by
  have:a=b:=h;subst this; exact g
 | s::p,q,a,b,c,h,g=>⟨h.1,h.2.1,Jft.app h.2.2 g⟩
theorem Kcb{s:Jc}(hs:Jc6 s)(f t:Int){sp:Int}(hsp:1<=sp):Jft s.From (Jla f t sp s) s.To:=by
 unfold Jla;have hs':=hs;unfold Jc6 at hs';split
 ·rename_i h;rw [Xr,Xr];split <;> split <;> simp only [cX,bO,Jft,Jcs,Jc6] <;> omega
 ·exact ⟨rfl,hs,rfl⟩
theorem Js3(f t:Int){sp:Int}(hsp:1<=sp):∀ {p:List Jc} {a b:Int},Jft a p b->Jft a (Xw p f t sp) b
 | [],_,_,h=>h
 | s::p,a,b,h=>by
  obtain ⟨h1,h2,h3⟩:=h;have:=Jft.app (Kcb h2 f t hsp) (Js3 f t hsp h3);rw [h1] at this;exact this
theorem Kfr{p:List Jc}{a b:Int}(h:Jft a p b)(hl:p.length<=128):Lz p:=⟨hl,fun _ _ hx=>h.get hx⟩
theorem Kd0{p:List Jc}(h:Lz p):∃ a b,Jft a p b:=by
 cases p with
 | nil=>exact ⟨0,0,rfl⟩
 | cons s p=>exact ⟨s.From,_,Kbm h.2 (f:=s) rfl (aB sG)⟩
theorem Khf(p:List Jc)(f t sp:Int):Lz (Lim p f t sp):=by
 unfold Lim; split
 ·rename_i h;obtain ⟨a,b,hc⟩:=Kd0 h.1;exact Kfr (Js3 f t h.2.1 hc) h.2.2
 ·exact Jvm
theorem Khk(f t sp:Int):Lim [] f t sp=[]:=by
 unfold Lim; split <;> simp [Xw]
def Kb1(e:Jt)(s:Jb):Prop:=s.In=0\/(s.In=2/\e.Kind=3)
instance (e:Jt)(s:Jb):Decidable (Kb1 e s):=by unfold Kb1; exact inferInstance
def Je5(e:Jt)(s:Jb)(B:Int)(r:Jj):Int×Int:=if Kb1 e s then (B+r.From,B+r.To) else (B+e.Length - r.To,B+e.Length - r.From)
noncomputable def Jhz(l:Ja)(r:Jj)(B:Int)(s:Jb)(p:List Jc):List Jc :=
 match l.Elements[s.El.toNat]? with
 | some e=>if s.El=r.El then Lim p (Je5 e s B r).1 (Je5 e s B r).2 r.Speed else p
 | none=>p
noncomputable def Rk(l:Ja)(r:Jj):Int->List Jb->List Jc->List Jc
 | _,[],p=>p
 | B,s::w,p=>Rk l r (B+lenOf l s) w (Jhz l r B s p)
theorem Jgg(l:Ja)(r:Jj)(v:List Jb):∀ (w:List Jb) (B:Int) (p:List Jc),Rk l r B (w++v) p=Rk l r (B+Uf l w) v (Rk l r B w p)
 | [],B,p=>by simp [Rk,Uf]
 | s::w,B,p=>by
  simp only [bO,Rk,Jgg l r v w,Uf];rw [eM]
theorem Kcc(l:Ja)(r:Jj)(B:Int)(s:Jb):Jhz l r B s []=[]:=by
 unfold Jhz;split
 ·split
  ·exact Khk _ _ _
  ·rfl
 ·rfl
theorem Jn5(l:Ja)(r:Jj):∀ (w:List Jb) (B:Int),Rk l r B w []=[]
 | [],_=>rfl
 | s::w,B=>by simp only [Rk,Kcc]; exact Jn5 l r w _
theorem Kda{l:Ja}{r:Jj}{B:Int}{s:Jb}{p:List Jc}(h:Lz p):Lz (Jhz l r B s p):=by
 unfold Jhz;split
 ·split
  ·exact Khf _ _ _ _
  ·exact h
 ·exact h
theorem Jv2{l:Ja}{r:Jj}:∀ {w:List Jb} {B:Int} {p:List Jc},Lz p->Lz (Rk l r B w p)
 | [],_,_,h=>h
 | s::w,B,p,h=>Jv2 (w:=w) (Kda h)
def Jbu(l:Ja)(r:Jj):Prop :=
 (1<=r.Id/\r.Id<=1073741824)/\Um l r.El=true/\0<=r.From/\r.From<r.To/\r.To<=Jdq l r.El/\100<=r.Speed/\r.Speed<=10000
open Classical in
noncomputable def Jce(l:Ja)(o:Int)(w:List Jb)(r:Jj)(p:List Jc):List Jc:=if r.Active=true/\Jbu l r then Rk l r o w p else p
noncomputable def Jah(l:Ja)(o:Int)(w:List Jb)(list:List Jj)(p:List Jc):List Jc:=list.foldl (fun q r=>Jce l o w r q) p
theorem Kd2(l:Ja)(o:Int)(w:List Jb)(r:Jj):Jce l o w r []=[]:=by
 unfold Jce; split
 ·exact Jn5 l r w o
 ·rfl
theorem Jyg{l:Ja}{o:Int}{w:List Jb}{r:Jj}{p:List Jc}(h:Lz p):Lz (Jce l o w r p):=by
 unfold Jce; split
 ·exact Jv2 h
 ·exact h
theorem Jg7(l:Ja)(o:Int)(w:List Jb)(a b:List Jj)(p:List Jc):Jah l o w (a++b) p=Jah l o w b (Jah l o w a p):=by simp [Jah]
theorem Jx9(l:Ja)(o:Int)(w:List Jb)(r:Jj)(p:List Jc):Jah l o w [r] p=Jce l o w r p:=rfl
theorem Jwu(l:Ja)(o:Int)(w:List Jb):∀ list:List Jj,Jah l o w list []=[]
 | []=>rfl
 | r::list=>by
  have:=Jwu l o w list;simp only [Jah,fB,Kd2] at this ⊢;exact this
theorem Jod{l:Ja}{o:Int}{w:List Jb}:∀ {list:List Jj} {p:List Jc},Lz p->Lz (Jah l o w list p)
 | [],_,h=>h
 | r::list,p,h=>Jod (list:=list) (Jyg h)
theorem Jxm{e:Jt}(he:-50<=e.Grade/\e.Grade<=50)(s:Jb):Cf e s=some (Kc7 e s):=by
 unfold Cf Kc7;rw [Qt oG oG]
 by_cases h0:s.In=0 <;> by_cases h2:s.In=2 <;> by_cases h3:e.Kind=3 <;> simp [h0,h2,h3]
theorem Ke4(e:Jt)(s:Jb):Ga e s=some (Kby e s):=by
 unfold Ga Kby
 by_cases h1:e.Kind=2 <;> by_cases h2:s.In=2 <;> by_cases h3:s.Out=2 <;> simp [h1,h2,h3]
theorem Khr{l:Ja}{o:Int}{way:List Jb}{i:Nat}{s:Jb}{e:Jt}(hs:way[i]? = some s)(he:l.Elements[s.El.toNat]? = some e)(hn:¬ (-1073741824<=o+Uf l (way.take i)/\o+Uf l (way.take i)<=1073741824)):¬ Lz (ofS l o way):=fun hp=>by
 obtain ⟨j,hj⟩:=aS (Ka8 (B:=o) he hs);have:=hp.ok hj;unfold Jc6 Kgs at this;dsimp only at this;omega
theorem Jrh{l:Ja}(hO:OkL l){way:List Jb}(hv:Vo l way){o:Int}(ho:-1073741824<=o/\o<=1073741824):Iw l way o=some (ofP l o way):=by
 suffices Is (Iw l way o) fun r=>r=ofP l o way by obtain ⟨r,h,rfl⟩:=this; exact h
 unfold Iw;have hl:=hv.2.1;rw [decide_eq_false oG,cond_false];refine Is.fold (L:=way) (mk:=fun i (m:Int×List Jc)=>(m.1,i,m.2)) (fun i m=>m.1=o+Uf l (way.take i)/\m.2=ofS l o (way.take i)) (o,[]) oG (by simp [Uf,ofS]) (fun i s m hs hi hI=>?_) (fun m hI=>?_)
 ·obtain ⟨B,p⟩:=m;obtain ⟨rfl,rfl⟩:=hI;obtain ⟨e,h1,h2,h3,h4,h5,h6⟩:=Jc0 hO hv hs;have hb:=Sz hO hv i oG;have hlen:=Jno l (way.take i) o;rw [aT] at hlen;unfold So;refine Is.inb hi (Is.at hs ?_);have hh:=h3;simp only [Um,aI,decide_eq_true_eq] at hh;rw [decide_eq_false (show ¬ s.El<0 by omega),decide_eq_false (show ¬ ((l.Elements.length:Nat):Int)<=s.El by omega)];simp only [cond_false,aA,h1,Jg5,h6,aX,Vs];refine Is.ifn (p:=-1073741824<=o+Uf l (way.take i)/\o+Uf l (way.take i)<=1073741824) sG (fun hc=>Is.val ?_) (fun hc=>?_)
  ·unfold ofP; rw [if_neg (Khr hs h2 hc)]
  ·rw [Jxm h5.2.2.1,Ke4];simp only [aA];have h52:=h5.2.1;refine Is.bind (Is.app ?_) fun M hM=>Is.val ⟨(o+Uf l (way.take (i+1)),ofS l o (way.take (i+1))), ?_,rfl,rfl⟩
   ·simp only [aE,aF,Js,Enc.b]; omega
   ·rw [hM,Qw hs,Jpv,Yl,Qt oG oG];simp only [Jny,h2,Kgs,Uf,h4,eG,eM]
 ·obtain ⟨B,p⟩:=m;obtain ⟨rfl,rfl⟩:=hI;unfold So;refine Is.oub (Is.val ?_);rw [aR];obtain ⟨b,hb,hbi⟩:=Eo (ofS l o way);show Is ((Vu (ofS l o way)).bind _) _;rw [hb];refine Is.ifn hbi (fun hc=>Is.val ?_) (fun hc=>Is.val ?_)
  ·unfold ofP; rw [if_neg hc]
  ·unfold ofP; rw [if_pos hc]
theorem Jvg{s:Jc}(hs:Jc6 s){f t sp:Int}(h:max s.From f<min s.To t) :
  ([⟨s.From,max s.From f,s.Grade,s.Speed⟩,⟨max s.From f,min s.To t,s.Grade,min s.Speed sp⟩,⟨min s.To t,s.To,s.Grade,s.Speed⟩]:List Jc).filter (fun x=>decide (x.From<x.To))=Jla f t sp s:=by
 unfold Jc6 at hs;unfold Jla;rw [if_pos h,Xr,Xr];have h2:decide (max s.From f<min s.To t)=true:=decide_eq_true h;simp only [List.filter_cons,h2,if_true,List.filter_nil]
 by_cases c1:s.From<max s.From f
 ·have e1:max s.From (-1073741824)=s.From:=by omega
  have e2:min s.To f=max s.From f:=by omega
  by_cases c2:min s.To t<s.To
  ·have e3:max s.From t=min s.To t:=by omega
   have e4:min s.To 1073741824=s.To:=by omega
   simp [c1,c2,Jcs,e1,e2,e3,e4]
  ·have e3:¬ max s.From t<min s.To 1073741824:=by omega
   simp only [decide_eq_false c2,decide_eq_true c1,if_neg e3,e1,e2,if_pos c1,Jcs];simp
 ·have e1:¬ max s.From (-1073741824)<min s.To f:=by omega
  by_cases c2:min s.To t<s.To
  ·have e3:max s.From t=min s.To t:=by omega
   have e4:min s.To 1073741824=s.To:=by omega
   simp only [decide_eq_false c1,decide_eq_true c2,if_neg e1,e3,e4,if_pos c2,Jcs];simp
  ·have e3:¬ max s.From t<min s.To 1073741824:=by omega
   simp only [decide_eq_false c1,decide_eq_false c2,if_neg e1,if_neg e3];simp
theorem Jku{p:List Jc}(f t sp:Int):Zt p f t sp=some (Lim p f t sp):=by
 suffices Is (Zt p f t sp) fun r=>r=Lim p f t sp by obtain ⟨r,h,rfl⟩:=this; exact h
 unfold Zt;obtain ⟨b,hb,hbi⟩:=Eo p;rw [hb];simp only [aA];refine Is.ite (p:=¬ (Lz p/\1<=sp)) (by
  rw [<- hbi]; cases b <;> simp <;> omega) (fun hc=>Is.val ?_) (fun hc=>?_)
 ·unfold Lim; rw [if_neg fun q=>hc ⟨q.1,q.2.1⟩]
 have hc:=bA.1 hc;have hp:=hc.1;have hpl:=hp.1;refine Is.fold (L:=p) (mk:=fun i (m:List Jc)=>(i,m)) (fun i m=>m=Xw (p.take i) f t sp) [] oG rfl (fun i s m hs hi hI=>?_) (fun m hI=>?_)
 ·subst hI;unfold Hc;have hlen:=(Jn7 f t sp (p.take i)).2;rw [aT] at hlen;have hok:=hp.ok hs;have hsn:Xw (p.take (i+1)) f t sp=Xw (p.take i) f t sp++Jla f t sp s:=by rw [Qw hs,Js0]
  refine Is.inb hi ?_;refine Is.onInl (θ:=fun o=>o=.inl (Xw (p.take (i+1)) f t sp)) (Is.at hs ?_) (fun v hv=>Is.val ⟨Xw (p.take (i+1)) f t sp,by cases hv; rfl,rfl⟩) (fun b hb=>by cases hb);simp only [Yh,aA];refine Is.ifn (p:=max s.From f<min s.To t) Km (fun hn=>?_) (fun hy=>?_)
  ·refine Is.bind (Is.app ?_) fun M hM=>Is.val ?_
   ·simp only [aE,aF,Js,Enc.b]; omega
   ·rw [hM,hsn]; unfold Jla; rw [if_neg hn]
  ·rw [hsn,<- Jvg hok hy];generalize hL:([⟨s.From,max s.From f,s.Grade,s.Speed⟩,⟨max s.From f,min s.To t,s.Grade,min s.Speed sp⟩,⟨min s.To t,s.To,s.Grade,s.Speed⟩]:List Jc)=L;have hLl:L.length=3:=by rw [<- hL]; rfl
   have hstep:Sc sp s (⟨max s.From f,min s.To t,s.Grade,s.Speed⟩,decide (max s.From f<min s.To t))=fun (x:List Jc×Int)=>bif decide (x.2<((L.length:Nat):Int)) then (onInl (α:=(List Jc)) ((ixO L x.2).bind fun x188=>bif decide (x188.From<x188.To) then ((Qi x.1 [x188]).bind fun x189=>some (.inl x189)) else some (.inl x.1)) fun x187=>some (.inl (x187,w64 (x.2+1)))) else some (.inr (.inl x.1)):=by
    rw [<- hL]; rfl
   rw [hstep];refine Is.fold (L:=L) (mk:=fun j (m:List Jc)=>(m,j)) (fun j m=>m=Xw (p.take i) f t sp++(L.take j).filter (fun x=>decide (x.From<x.To))) (Xw (p.take i) f t sp) oG sG (fun j u m hu hj hI=>?_) (fun m hI=>?_)
   ·subst hI;have hl2:((L.take j).filter (fun x=>decide (x.From<x.To))).length<=3:=bG (bZ _ _) (by rw [aT]; omega);refine Is.inb hj ?_;refine Is.onInl (θ:=fun o=>o=.inl (Xw (p.take i) f t sp++(L.take (j+1)).filter (fun x=>decide (x.From<x.To)))) (Is.at hu ?_) (fun v hv=>Is.val ⟨_,by cases hv; rfl,rfl⟩) (fun b hb=>by cases hb);rw [Qw hu,cS];refine Is.ite Km (fun hq=>?_) (fun hq=>Is.val ?_)
    ·refine Is.bind (Is.app ?_) fun M hM=>Is.val ?_
     ·simp only [aH,aE,aF,Js,Enc.b]; omega
     ·rw [hM]; simp [hq]
    ·simp [hq]
   ·subst hI;refine Is.oub (Is.val ?_);rw [aR];exact Is.val rfl
 ·subst hI;unfold Hc;refine Is.oub (Is.val ?_);rw [aR];refine Is.ite (p:=128<(Xw p f t sp).length) (by rw [decide_eq_true_iff]; omega) (fun hq=>Is.val ?_) (fun hq=>Is.val ?_)
  ·unfold Lim; rw [if_neg fun q=>by omega]
  ·unfold Lim; rw [if_pos ⟨hp,hc.2,by omega⟩]
theorem Ju2{l:Ja}{i:Int}{e:Jt}(he:l.Elements[i.toNat]? = some e):Jdq l i=e.Length:=by simp [Jdq,he]
theorem Jgt(l:Ja)(r:Jj):Is (Zw l r) fun c=>(c=0/\Jbu l r)\/(c=1/\¬ Jbu l r):=by
 unfold Zw;refine Is.bind (φ:=fun b=>b=true↔¬ ((1<=r.Id/\r.Id<=1073741824)/\Um l r.El=true)) ?_ fun b hb=>Is.ite hb (fun h=>Is.val (.inr ⟨rfl,fun q=>h ⟨q.1,q.2.1⟩⟩)) fun h=>?_
 ·refine (Is.or (p:=¬ (1<=r.Id/\r.Id<=1073741824)\/r.El<0) (q:=((l.Elements.length:Nat):Int)<=r.El) (by simp; omega) fun _=>Is.dec Iff.rfl).iff ?_;simp only [Um,aI,decide_eq_true_eq]; omega
 obtain ⟨h1,h2⟩:=bA.1 h;obtain ⟨e,e1,e2⟩:=Vj h2;have hl:=Ju2 e2;refine Is.bind (φ:=fun b=>b=true↔¬ (0<=r.From/\r.From<r.To/\r.To<=e.Length)) ?_ fun b hb=>Is.ite (p:=¬ (0<=r.From/\r.From<r.To/\r.To<=e.Length/\100<=r.Speed/\r.Speed<=10000)) (by
   rw [bP,bP,hb,decide_eq_true_iff,decide_eq_true_iff]; omega) (fun h=>Is.val (.inr ⟨rfl,fun q=>h ?_⟩)) fun h=>Is.val (.inl ⟨rfl,h1,h2, ?_⟩)
 ·refine (Is.or (p:=r.From<0\/r.To<=r.From) (q:=e.Length<r.To) sG fun _=>?_).iff oG;rw [e1]; exact Is.dec Iff.rfl
 ·have:=q.2.2; omega
 ·omega
theorem Jns(e:Jt)(s:Jb):((decide (s.In=0))||((decide (s.In=2))&&(decide (e.Kind=3))))=true↔Kb1 e s:=by simp [Kb1]
theorem Kap{l:Ja}{r:Jj}{o:Int}{way:List Jb}{p:List Jc}{i:Nat}{s:Jb}(hs:way[i]? = some s) :
  Rk l r o (way.take (i+1)) p=Jhz l r (o+Uf l (way.take i)) s (Rk l r o (way.take i) p):=by rw [Qw hs,Jgg]; rfl
theorem Ke9{l:Ja}{r:Jj}{o:Int}{way:List Jb}{p:List Jc}{i:Nat}(h:Rk l r o (way.take i) p=[]):Rk l r o way p=[]:=by
 have:=Jgg l r (way.drop i) (way.take i) o p;rw [bB,h,Jn5] at this;exact this
theorem Jz9{l:Ja}(hO:OkL l){way:List Jb}(hv:Vo l way){o:Int}(ho:-1073741824<=o/\o<=1073741824)(p:List Jc){r:Jj}(hr:Jbu l r) :
  Is (Yq l way o p r) fun q=>q=some (Rk l r o way p)\/(q=none/\Rk l r o way p=[]):=by
 unfold Yq;have hl:=hv.2.1;refine Is.fold (L:=way) (mk:=fun i (m:List Jc×Int)=>(m.1,m.2,i)) (fun i m=>m.1=Rk l r o (way.take i) p/\m.2=o+Uf l (way.take i)) (p,o) oG (by simp [Uf,Rk]) (fun i s m hs hi hI=>?_) (fun m hI=>?_)
 ·obtain ⟨q,B⟩:=m;obtain ⟨rfl,rfl⟩:=hI;obtain ⟨e,h1,h2,h3,h4,h5,h6⟩:=Jc0 hO hv hs;have hb:=Sz hO hv i oG;have hat:=Kap (l:=l) (r:=r) (o:=o) (p:=p) hs;have hel:=h5.2.1;generalize hQ:Rk l r o (way.take i) p=Q at hat ⊢;generalize hB:o+Uf l (way.take i)=B at hat ⊢;have hB2:-2147483648<=B/\B<=2147483648:=by omega
  have hsum:o+Uf l (way.take (i+1))=B+e.Length:=by
   rw [Qw hs,Yl]; simp only [Uf,h4,eG]; omega
  have hstep:Jhz l r B s Q=if s.El=r.El then Lim Q (Je5 e s B r).1 (Je5 e s B r).2 r.Speed else Q:=by simp [Jhz,h2]
  unfold Zo;refine Is.inb hi ?_;refine Is.onInl (θ:=fun z=>z=.inl (Rk l r o (way.take (i+1)) p,o+Uf l (way.take (i+1)))\/(z=.inr (.inr (.inr none))/\Rk l r o (way.take (i+1)) p=[])) (Is.at hs ?_) (fun v hv=>Is.val ?_) (fun b hb=>?_)
  ·have hh:=h3;simp only [Um,aI,decide_eq_true_eq] at hh;rw [decide_eq_false (show ¬ s.El<0 by omega),decide_eq_false (show ¬ ((l.Elements.length:Nat):Int)<=s.El by omega)];simp only [cond_false,aA,h1];refine Is.onInl (θ:=fun z=>z=.inl (Rk l r o (way.take (i+1)) p)\/(z=.inr (.inr (.inr (.inr none)))/\Rk l r o (way.take (i+1)) p=[])) ?_ (fun v hv=>Is.val ?_) (fun b hb=>?_)
   ·refine Is.ite Km (fun heq=>?_) (fun hne=>Is.val ?_)
    ·have hre:Jdq l r.El=e.Length:=by rw [<- heq]; exact Ju2 h2
     obtain ⟨c1,c2,c3,c4,c5,c6⟩:=hr;refine Is.onInl (θ:=fun z=>z=.inl (Je5 e s B r)) ?_ (fun v hv=>?_) (fun b hb=>by cases hb)
     ·unfold Je5;refine Is.ite (Jns e s) (fun hf=>Is.val ?_) (fun hf=>Is.val ?_)
      ·rw [if_pos hf,Qt oG oG,Qt oG oG]
      ·rw [if_neg hf,Qt (n:=B+e.Length) oG oG,Qt oG oG,Qt oG oG]
     ·cases hv;rw [if_pos heq] at hstep;show Is ((Zt Q (Je5 e s B r).1 (Je5 e s B r).2 r.Speed).bind _) _;rw [Jku,<- hstep,<- hat];simp only [aA];refine Is.onInl (θ:=fun z=>z=.inl ()\/(z=.inr (.inr (.inr (.inr (.inr none))))/\Rk l r o (way.take (i+1)) p=[])) ?_ (fun v hv=>Is.val ?_) (fun b hb=>?_)
      ·refine Is.bind (φ:=fun b=>b=true->Rk l r o (way.take (i+1)) p=[]) (Is.ite Km (fun hz=>Is.val fun _=>List.length_eq_zero_iff.1 oG) (fun _=>Is.val fun h=>by cases h)) fun b hb=>Is.cond (fun h=>Is.val (.inr ⟨rfl,hb h⟩)) (fun h=>Is.val (.inl rfl))
      ·exact .inl rfl
      ·rcases hb with hb|⟨hb,hz⟩
       ·cases hb
       ·cases hb; exact .inr ⟨rfl,hz⟩
    ·left; rw [hat,hstep,if_neg hne]
   ·rcases hv with hv|⟨hv,_⟩
    ·cases hv; left; rw [hsum,Qt oG oG]
    ·cases hv
   ·rcases hb with hb|⟨hb,hz⟩
    ·cases hb
    ·cases hb; exact .inr ⟨rfl,hz⟩
  ·rcases hv with hv|⟨hv,_⟩
   ·cases hv; exact ⟨(_,_),rfl,rfl,rfl⟩
   ·cases hv
  ·rcases hb with hb|⟨hb,hz⟩
   ·cases hb
   ·cases hb; exact .inr ⟨rfl,Ke9 hz⟩
 ·obtain ⟨q,B⟩:=m;obtain ⟨rfl,rfl⟩:=hI;unfold Zo;refine Is.oub (Is.val ?_);rw [aR];exact Is.val (.inl rfl)
theorem Kf2{l:Ja}{o:Int}{way:List Jb}{p:List Jc}{list:List Jj}{i:Nat}(h:Jah l o way (list.take i) p=[]):Jah l o way list p=[]:=by
 have:=Jg7 l o way (list.take i) (list.drop i) p;rw [bB,h,Jwu] at this;exact this
theorem Jg1{l:Ja}(hj:l.Joints.length<=1048576)(hO:OkL l){way:List Jb}(hv:Vo l way){o:Int}(ho:-1073741824<=o/\o<=1073741824){p:List Jc}(hp:Lz p){list:List Jj}(hl:list.length<=1048576) :
  Yj list way o l p=some (Jah l o way list p):=by
 suffices Is (Yj list way o l p) fun r=>r=Jah l o way list p by obtain ⟨r,h,rfl⟩:=this; exact h
 unfold Yj Yb;have hpl:=hp.1;have hvl:=hv.2.1;obtain ⟨M,hM,hM2⟩:=Is.app (L:=([]:List Jc)) (ys:=p) (by simp only [aF,Js,Enc.b]; omega);rw [hM];simp only [cX] at hM2;subst hM2;obtain ⟨b,hb,hbi⟩:=Eo M;obtain ⟨c,hc,hci⟩:=Xf l way hj oG;rw [hb,hc,hbi.2 hp,hci.2 hv,decide_eq_false (show ¬ o < -1073741824 by omega),decide_eq_false (show ¬ 1073741824<o by omega)];simp only [aA,aX,cond_false,fC];refine Is.fold (L:=list) (mk:=fun i (m:List Jc)=>(i,m)) (fun i m=>m=Jah l o way (list.take i) M) M oG rfl (fun i r m hr hi hI=>?_) (fun m hI=>?_)
 ·subst hI;unfold Ck;have hat:Jah l o way (list.take (i+1)) M=Jce l o way r (Jah l o way (list.take i) M):=by rw [Qw hr,Jg7,Jx9]
  refine Is.inb hi ?_;refine Is.onInl (θ:=fun z=>z=.inl (Jah l o way (list.take (i+1)) M)\/(z=.inr (.inr (.inr []))/\Jah l o way (list.take (i+1)) M=[])) (Is.at hr ?_) (fun v hv=>Is.val ?_) (fun b hb=>?_)
  ·refine Is.bind (φ:=fun b=>b=true↔r.Active=true/\Jbu l r) (Is.and Iff.rfl fun _=>Is.bind (Jgt l r) fun c hc=>Is.dec ?_) fun b hb=>?_
   ·rcases hc with ⟨rfl,hc⟩|⟨rfl,hc⟩
    ·exact iff_of_true rfl hc
    ·exact iff_of_false oG hc
   ·refine Is.ite hb (fun hy=>?_) (fun hn=>Is.val ?_)
    ·obtain ⟨q,hq,hq2⟩:=Jz9 hO hv ho (Jah l o way (list.take i) M) hy.2;unfold Kho;rw [hq];have e1:Jah l o way (list.take (i+1)) M=Rk l r o way (Jah l o way (list.take i) M):=by rw [hat]; unfold Jce; rw [if_pos hy]
     rcases hq2 with rfl|⟨rfl,hz⟩
     ·exact Is.val (.inl (by rw [e1]))
     ·exact Is.val (.inr ⟨rfl,by rw [e1]; exact hz⟩)
    ·left; rw [hat]; unfold Jce; rw [if_neg hn]
  ·rcases hv with hv|⟨hv,_⟩
   ·cases hv; exact ⟨_,rfl,rfl⟩
   ·cases hv
  ·rcases hb with hb|⟨hb,hz⟩
   ·cases hb
   ·cases hb; exact (Kf2 hz).symm
 ·subst hI;unfold Ck;refine Is.oub (Is.val ?_);rw [aR];exact Is.val rfl
end PM
