/-
 Plain laws, joined: WalkA WalkB WalkC WalkD WalkE WalkG WalkH WalkI WalkJ WalkK LayA LayB LayC LayD LayE BodyB BodyC BodyD ClmA LnkA SrtA SrtB LnkB LnkC AutA AutB AutC AutD AutE AutF OverA RutA RutB OverC FlankA FlankB CompI FlankC RefB FlankE AutG RbcA RbcC RbcD RbcE RbcF RbcK RbcM RbcL RbcP.
-/
import Derived.Test.YtfpoeepcomnjhaaGreatDoorPlA
import Derived.Test.YtfpoeepcomnjhaaGreatDoorDen
namespace PM
open Go Go.RowKit
def Jbk(a0 a1 a2:Int):Int×Bool :=
 match Qy.find? (fun x=>decide (x.kind_=a0)&&decide (x.in_=a1)&&decide (x.out_=a2)) with
 | some x=>(x.need_,true)
 | none=>(0,false)
def Jnu(a0 a1:Int):List Int :=
 if a0=1/\a1=0 then [1] else if a0=1/\a1=1 then [0] else
 if a0=2/\a1=0 then [1,2] else if a0=2/\a1=1 then [0] else if a0=2/\a1=2 then [0] else
 if a0=3/\a1=0 then [1] else if a0=3/\a1=1 then [0] else if a0=3/\a1=2 then [3] else if a0=3/\a1=3 then [2] else []
def Jb0(a0:Int):Int:=if a0=1 then 2 else if a0=2 then 3 else if a0=3 then 4 else 0
theorem kinds(a:Int):a=1\/a=2\/a=3\/(¬ a=1/\¬ a=2/\¬ a=3/\¬ 1=a/\¬ 2=a/\¬ 3=a):=by omega
theorem Jg1(a:Int):a=0\/a=1\/a=2\/a=3\/(¬ a=0/\¬ a=1/\¬ a=2/\¬ a=3/\¬ 0=a/\¬ 1=a/\¬ 2=a/\¬ 3=a):=by omega
set_option maxRecDepth 10000
theorem Sn(a0 a1 a2:Int):Cj a0 a1 a2=some (Jbk a0 a1 a2):=by
 unfold Cj Jbk;rcases kinds a0 with rfl|rfl|rfl|⟨h1,h2,h3,h4,h5,h6⟩
 ·simp [Qy,dN];rcases Jg1 a1 with rfl|rfl|rfl|rfl|⟨g0,g1,g2,g3,g4,g5,g6,g7⟩ <;> rcases Jg1 a2 with rfl|rfl|rfl|rfl|⟨e0,e1,e2,e3,e4,e5,e6,e7⟩ <;> simp [*] <;> omega
 ·simp [Qy,dN];rcases Jg1 a1 with rfl|rfl|rfl|rfl|⟨g0,g1,g2,g3,g4,g5,g6,g7⟩ <;> rcases Jg1 a2 with rfl|rfl|rfl|rfl|⟨e0,e1,e2,e3,e4,e5,e6,e7⟩ <;> simp [*] <;> (repeat' split) <;> first|rfl|omega
 ·simp [Qy,dN];rcases Jg1 a1 with rfl|rfl|rfl|rfl|⟨g0,g1,g2,g3,g4,g5,g6,g7⟩ <;> rcases Jg1 a2 with rfl|rfl|rfl|rfl|⟨e0,e1,e2,e3,e4,e5,e6,e7⟩ <;> simp [*] <;> omega
 ·simp [Qy, *]
def Ked(a0 a1:Int)(i:Nat)(_:Unit)(l:List Int):Option (List Int⊕(List Int⊕List Int)) :=
 bif (Jbk a0 a1 i).2 then (Qd l [(i:Int)]).map .inl else some (.inl l)
theorem Jit(a0 a1:Int):Ee a0 a1=onInl (Jsi (Ked a0 a1) (fun l=>.inl l) [(),(),(),()] 0 []) some:=by
 unfold Ee;rw [<- Jt1 (step:=Gp a0 a1) (fun (i:Nat) (l:List Int)=>((i:Int),l))]
 ·rfl
 ·intro i x l h;have hi:i<4:=Qo h;simp only [Gp,show decide ((i:Int)<4)=true by simp; omega,cond_true,Sn,aA,Ked];cases (Jbk a0 a1 i).2
  ·simp [onInl,Wk,Hz (n:=(i:Int)+1) oG oG]
  ·cases Qd l [(i:Int)] <;> simp [onInl,Wk,Hz (n:=(i:Int)+1) oG oG]
 ·intro l; simp [Gp]
theorem Jk4(a0 a1:Int):Ee a0 a1=some (Jnu a0 a1):=by
 rw [Jit];rcases kinds a0 with rfl|rfl|rfl|⟨h1,h2,h3,h4,h5,h6⟩ <;> rcases Jg1 a1 with rfl|rfl|rfl|rfl|⟨g0,g1,g2,g3,g4,g5,g6,g7⟩ <;>
  simp [Jsi,Jbk,Qy,Ked,onInl,Wk,Jnu,Qd,Enc.b,Jx, *]
structure Sm (l:Ja):Prop where
 sec:l.Sections.length<=1048576
 el:l.Elements.length<=1048576
 jo:l.Joints.length<=1048576
 sg:l.Signals.length<=1048576
 ba:l.Balises.length<=1048576
 nm:l.Name.size<=1048576
 secn:∀ x∈l.Sections,x.size<=1048576
 eln:∀ x∈l.Elements,x.Name.size<=1048576
 sgn:∀ x∈l.Signals,x.Name.size<=1048576
theorem Mo(x y:Je):Kc x y=true↔x=y:=by
 cases x; cases y; simp [Kc]
def Kq(l:Ja)(e:Je):Je×Bool :=
 match l.Joints.find? fun j=>Kc j.A e||Kc j.B e with
 | some j=>(bif Kc j.A e then j.B else j.A,true)
 | none=>(⟨0,0⟩,false)
theorem Jxu{l:Ja}(h:l.Joints.length<=1048576)(e:Je):Er l e=some (Kq l e):=by
 unfold Er Kq;rw [Jfy (fun j=>Kc j.A e||Kc j.B e) (fun j=>.inr (bif Kc j.A e then j.B else j.A,true)) (.inl ()) l.Joints oG]
 ·cases l.Joints.find? (fun j=>Kc j.A e||Kc j.B e) <;> rfl
 ·intro i x hx;have hi:=Qo hx;simp only [Fk,Qm hx,show decide ((i:Int)<((l.Joints.length:Nat):Int))=true by simp; omega,cond_true,aA];cases Kc x.A e <;> cases Kc x.B e <;> rfl
 ·simp [Fk]
theorem Vb{l:Ja}(h:l.Joints.length<=1048576)(e:Je):Wn l e=some (Kq l e):=by
 unfold Wn Kq;rw [Jfy (fun j=>Kc j.A e||Kc j.B e) (fun j=>.inr (bif Kc j.A e then j.B else j.A,true)) (.inl ()) l.Joints oG]
 ·cases l.Joints.find? (fun j=>Kc j.A e||Kc j.B e) <;> rfl
 ·intro i x hx;have hi:=Qo hx;simp only [Hj,Qm hx,show decide ((i:Int)<((l.Joints.length:Nat):Int))=true by simp; omega,cond_true,aA];cases Kc x.A e <;> cases Kc x.B e <;> rfl
 ·simp [Hj]
theorem Rh{l:Ja}(h:l.Joints.length<=1048576)(s:Jb):Cq l s=some (Kq l ⟨s.El,s.Out⟩):=by
 simp [Cq,Vb h]
def Vi(l:Ja)(i:Int):Bool:=decide (0<=i)&&decide (i<((l.Elements.length:Nat):Int))
theorem Jl9(l:Ja)(i:Int):Zm l i=some (Vi l i):=by
 unfold Zm Vi;cases decide (0<=i) <;> simp
theorem Lr(l:Ja)(i:Int):Yl l i=some (Vi l i):=by
 unfold Yl Vi;cases decide (0<=i) <;> simp
theorem Wu{l:Ja}{i:Int}(h:Vi l i=true):∃ x,ixO l.Elements i=some x/\l.Elements[i.toNat]? = some x:=by
 simp only [Vi,aF,decide_eq_true_eq] at h;obtain ⟨x,h1,h2⟩:=Is.ix (L:=l.Elements) h.1 h.2;exact ⟨x,h1,h2⟩
theorem Jos(a0 a1:Int):(Jnu a0 a1).length<=2:=by
 unfold Jnu
 (repeat' split) <;> simp
theorem Jf4(a:Je)(L:List Int)(h:L.length<=10):Is (Jq (Bi a L) (0,([]:List Jb))) fun o=>o=.inl (L.map fun x=>⟨a.El,a.Side,x⟩):=by
 refine Is.loop (mk:=fun (i:Nat) (m:List Jb)=>((i:Int),m)) L.length (fun i m=>m=(L.take i).map fun x=>⟨a.El,a.Side,x⟩) [] rfl ?_ ?_
 ·rintro i m hi rfl;unfold Bi;refine Is.cond (fun _=>?_) (fun hb=>by simp at hb; omega);refine Is.bind (Is.ixn hi) fun x hx=>?_;refine Is.bind (Is.app ?_) fun M hM=>?_
  ·simp only [aS,aU,aE,aN,Jx,Enc.b]; omega
  ·subst hM;refine Is.val ⟨(L.take (i+1)).map fun x=>⟨a.El,a.Side,x⟩, ?_,rfl⟩;rw [Fz oG,cV,hx];simp
 ·rintro m rfl;unfold Bi;refine Is.cond (fun hb=>by simp at hb) (fun _=>Is.val ?_);simp
def Fx(l:Ja)(a:Je):List Jb :=
 bif Vi l a.El then match l.Elements[a.El.toNat]? with
  | some x=>(Jnu x.Kind a.Side).map fun o=>⟨a.El,a.Side,o⟩
  | none=>[]
 else []
theorem Ja2(l:Ja)(a:Je):Bb l a=some (Fx l a):=by
 unfold Bb Fx;rw [Lr];simp only [aA];cases h:Vi l a.El with
 | false=>rfl
 | true=>
  obtain ⟨x,h1,h2⟩:=Wu h;obtain ⟨o,h3,rfl⟩:=Jf4 a (Jnu x.Kind a.Side) (by have:=Jos x.Kind a.Side; omega);simp [h1,h2,Jk4,h3,onInl,Wk]
theorem Jo2(l:Ja)(a:Je):(Fx l a).length<=2:=by
 unfold Fx;cases Vi l a.El with
 | false=>simp
 | true=>
  simp only [cond_true];split
  ·rename_i x _;have:=Jos x.Kind a.Side
   simpa using this
  ·simp
def Jga(l:Ja)(s:Jb):Int×Bool :=
 bif Vi l s.El then match l.Elements[s.El.toNat]? with
  | some x=>Jbk x.Kind s.In s.Out
  | none=>(0,false)
 else (0,false)
def lenOf(l:Ja)(s:Jb):Int:=bif Vi l s.El then ((l.Elements[s.El.toNat]?).map (·.Length)).getD 0 else 0
def Bt(l:Ja):List Jb->Int
 | []=>0
 | s::r=>lenOf l s+Bt l r
theorem Rr(l:Ja):∀ a b:List Jb,Bt l (a++b)=Bt l a+Bt l b
 | [],b=>by simp [Bt]
 | s::r,b=>by simp only [cB,Bt,Rr l r b]; omega
theorem Jfl(l:Ja)(way:List Jb)(h:way.length<=1048576):Cv l way=some (w64 (Bt l way)):=by
 unfold Cv;have:Is (Jq (Ei l way) (0,0)) fun o=>o=.inl (w64 (Bt l way)):=by
  refine Is.loop (mk:=fun (i:Nat) (x:Int)=>(x,(i:Int))) way.length (fun i x=>x=w64 (Bt l (way.take i))) 0 rfl ?_ ?_
  ·rintro i x hi rfl;unfold Ei;refine Is.cond (fun _=>?_) (fun hb=>by simp at hb; omega);refine Is.onInl (θ:=fun o=>o=.inl (w64 (Bt l (way.take (i+1))))) ?_ ?_ ?_
   ·refine Is.bind (Is.ixn hi) fun s hs=>?_;have e:Bt l (way.take (i+1))=Bt l (way.take i)+lenOf l s:=by
     rw [cV,hs,Option.toList_some,Rr]; simp [Bt]
    rw [Jl9];refine Is.bind (Is.eq rfl) fun b hb=>?_;refine Is.cond (fun hb'=>?_) (fun hb'=>?_)
    ·subst hb;obtain ⟨x,h1,h2⟩:=Wu hb';refine Is.bind (Is.eq h1) fun y hy=>?_;subst hy;refine Is.val ?_;rw [e,Jwk];simp [lenOf,hb',h2]
    ·subst hb;refine Is.val ?_;rw [e];simp [lenOf,hb']
   ·rintro v hv;cases hv;exact Is.val ⟨_,by rw [Fz oG],rfl⟩
   ·intro b hb; cases hb
  ·rintro x rfl;unfold Ei;refine Is.cond (fun hb=>by simp at hb) (fun _=>Is.val ?_);rw [bA]
 obtain ⟨o,h1,rfl⟩:=this;simp [h1,onInl,Wk]
def Jmx(l:Ja)(way:List Jb)(i:Nat):Prop :=
 ∃ s,way[i]? = some s/\(Jga l s).2=true/\(∀ k t,k<i->way[k]? = some t->t.El≠s.El)/\(∀ p,0<i->way[i - 1]? = some p->Kq l ⟨p.El,p.Out⟩=(⟨s.El,s.In⟩,true))
def Sx(l:Ja)(way:List Jb):Prop:=1<=way.length/\way.length<=64/\∀ i,i<way.length->Jmx l way i
theorem Xg(a0:Int):Ey a0=some (Jb0 a0):=by
 unfold Ey Jb0;simp [dN]
 (repeat' split) <;> simp_all
def exS(l:Ja)(e:Je):Bool :=
 Vi l e.El&&decide (0<=e.Side)&&(match l.Elements[e.El.toNat]? with|some x=>decide (e.Side<Jb0 x.Kind)|none=>false)
theorem Jdl(l:Ja)(e:Je):Bm l e=some (exS l e):=by
 unfold Bm exS;have h1:((bif decide (0<=e.El) then (some (decide (e.El<((l.Elements.length:Nat):Int)))) else some false):Option Bool)=some (Vi l e.El):=by
  unfold Vi; cases decide (0<=e.El) <;> simp
 rw [h1];simp only [aA];cases h:Vi l e.El with
 | false=>rfl
 | true=>
  obtain ⟨x,h2,h3⟩:=Wu h;cases decide (0<=e.Side) with
  | false=>rfl
  | true=>simp [h2,h3,Xg]
theorem Yg{α:Type}{L:List α}{i:Nat}{x:α}(h:L[i]? = some x):L.take (i+1)=L.take i++[x]:=by rw [cV,h]; rfl
theorem Jmc{l:Ja}(h:Sm l):Is (Ij l) fun r=>r.x0=l.Sections/\r.x1=l.Elements.map (·.Name)/\r.x2=l.Signals.map (·.Name):=by
 unfold Ij;have h1:=h.sec; have h2:=h.el; have h3:=h.sg;refine Is.bind (Is.app (by simp only [aN,Jx,Enc.b]; omega)) fun x1 hx1=>?_;refine Is.onInl (θ:=fun o=>o=.inl (l.Elements.map (·.Name))) ?_ ?_ (fun b hb=>by cases hb)
 ·refine Is.loop (mk:=fun (i:Nat) (m:List ByteArray)=>((i:Int),m)) l.Elements.length (fun i m=>m=(l.Elements.take i).map (·.Name)) [] rfl ?_ ?_
  ·rintro i m hi rfl;unfold Lx;refine Is.cond (fun _=>?_) (fun hb=>by simp at hb; omega);refine Is.bind (Is.ixn hi) fun x hx=>?_;refine Is.bind (Is.app ?_) fun M hM=>?_
   ·simp only [aS,aU,aE,aN,Jx,Enc.b]; omega
   ·subst hM;exact Is.val ⟨_,by rw [Fz oG],by rw [cV,hx]; simp⟩
  ·rintro m rfl;unfold Lx;exact Is.cond (fun hb=>by simp at hb) (fun _=>Is.val (by rw [bA]))
 ·rintro v hv;cases hv;refine Is.onInl (θ:=fun o=>o=.inl (l.Signals.map (·.Name))) ?_ ?_ (fun b hb=>by cases hb)
  ·refine Is.loop (mk:=fun (i:Nat) (m:List ByteArray)=>((i:Int),m)) l.Signals.length (fun i m=>m=(l.Signals.take i).map (·.Name)) [] rfl ?_ ?_
   ·rintro i m hi rfl;unfold Lj;refine Is.cond (fun _=>?_) (fun hb=>by simp at hb; omega);refine Is.bind (Is.ixn hi) fun x hx=>?_;refine Is.bind (Is.app ?_) fun M hM=>?_
    ·simp only [aS,aU,aE,aN,Jx,Enc.b]; omega
    ·subst hM;exact Is.val ⟨_,by rw [Fz oG],by rw [cV,hx]; simp⟩
   ·rintro m rfl;unfold Lj;exact Is.cond (fun hb=>by simp at hb) (fun _=>Is.val (by rw [bA]))
  ·rintro v hv;cases hv;exact Is.val ⟨by rw [hx1,List.nil_append],rfl,rfl⟩
def Nz(L:List Uu):List Je:=L.flatMap fun j=>[j.A,j.B]
theorem Jsq(L:List Uu)(j:Uu):Nz (L++[j])=Nz L++[j.A,j.B]:=by simp [Nz]
def Jp7(l:Ja):Prop:=(∀ j∈l.Joints,exS l j.A=true/\exS l j.B=true)/\(Nz l.Joints).Nodup
theorem Jp6{l:Ja}{e:Je}(h:exS l e=true):Vi l e.El=true:=by
 simp only [exS,aF] at h; exact h.1.1
theorem Jtc{l:Ja}(hJ:Jp7 l){e f:Je}(h:Kq l e=(f,true)):exS l f=true:=by
 unfold Kq at h;split at h
 ·rename_i j hj;have hm:=hJ.1 j (List.mem_of_find?_eq_some hj);cases hA:Kc j.A e <;> rw [hA] at h <;> simp at h <;> subst h
  ·exact hm.1
  ·exact hm.2
 ·simp at h
theorem Jem{α:Type}{p:List α->Prop}(h0:p [])(h1:∀ l x,p l->p (l++[x]))(l:List α):p l:=by
 have key:∀ m:List α,p m.reverse:=by
  intro m;induction m with
  | nil=>exact h0
  | cons x m ih=>rw [List.reverse_cons]; exact h1 _ _ ih
 have:=key l.reverse
 rwa [List.reverse_reverse] at this
section
variable {α:Type} [DecidableEq α]
def Jjl(acc:List α)(x:α):List α:=if acc.getLast? = some x then acc else acc++[x]
def ddS(l:List α):List α:=l.foldl Jjl []
theorem Jh9(l:List α)(x:α):ddS (l++[x])=Jjl (ddS l) x:=by simp [ddS,List.foldl_append]
theorem Jt6(l:List α):(ddS l).getLast? = l.getLast?:=by
 induction l using Jem with
 | h0=>rfl
 | h1 l x ih=>
  rw [Jh9,Jjl];split
  ·rename_i h; rw [h]; simp
  ·simp
theorem Jrf(l:List α):(ddS l).length<=l.length:=by
 induction l using Jem with
 | h0=>simp [ddS]
 | h1 l x ih=>
  rw [Jh9,Jjl];split
  ·simp; omega
  ·simp; omega
theorem Jre(l:List α)(x:α):x∈ddS l↔x∈l:=by
 induction l using Jem with
 | h0=>simp [ddS]
 | h1 l y ih=>
  rw [Jh9,Jjl];split
  ·rename_i h;rw [ih,aW,cG];constructor
   ·exact .inl
   ·rintro (h1|rfl)
    ·exact h1
    ·rw [Jt6] at h;exact List.mem_of_getLast? h
  ·simp [ih]
theorem Jhe{lt:α->α->Bool}(tr:∀ x y z,lt x y=true->lt y z=true->lt x z=true)(tot:∀ x y,lt y x=false->x=y\/lt x y=true)(l:List α)(h:l.Pairwise fun x y=>lt y x=false):(ddS l).Pairwise fun x y=>lt x y=true:=by
 induction l using Jem with
 | h0=>simp [ddS]
 | h1 l y ih=>
  rw [bW] at h;obtain ⟨h1,_,h2⟩:=h;have ih':=ih h1;rw [Jh9,Jjl];split
  ·exact ih'
  ·rename_i hne;rw [bW];refine ⟨ih',by simp,fun x hx z hz=>?_⟩;simp only [cG] at hz;subst hz
   -- the last element of what is kept
   obtain ⟨m,hm⟩:∃ m,(ddS l).getLast? = some m:=by
    cases hd:ddS l with
    | nil=>rw [hd] at hx; cases hx
    | cons a r=>exact ⟨_,List.getLast?_eq_some_getLast (List.cons_ne_nil _ _)⟩
   have hml:m∈l:=by rw [Jt6] at hm; exact List.mem_of_getLast? hm
   have hmz:lt m z=true:=by
    rcases tot m z (h2 m hml z sG) with e|e
    ·subst e; exact absurd hm hne
    ·exact e
   by_cases hxm:x=m
   ·subst hxm; exact hmz
   ·have hsplit:∃ a,ddS l=a++[m]:=by
     refine ⟨(ddS l).dropLast, ?_⟩;have hne':ddS l≠[]:=fun e=>by rw [e] at hx; cases hx
     have:=List.dropLast_concat_getLast hne';rw [List.getLast?_eq_some_getLast hne'] at hm;cases hm;exact this.symm
    obtain ⟨a,ha⟩:=hsplit;rw [ha] at hx ih';rw [bW] at ih';rcases aW.1 hx with hx|hx
    ·exact tr x m z (ih'.2.2 x hx m sG) hmz
    ·exact absurd (by simpa using hx) hxm
theorem Rj{lt:α->α->Bool}(ir:∀ x,lt x x=false)(tr:∀ x y z,lt x y=true->lt y z=true->lt x z=true):∀ (a b:List α),a.Pairwise (fun x y=>lt x y=true)->b.Pairwise (fun x y=>lt x y=true)->(∀ x,x∈a↔x∈b)->a=b
 | [],[],_,_,_=>rfl
 | [],y::b,_,_,h=>absurd ((h y).2 sG) sG
 | x::a,[],_,_,h=>absurd ((h x).1 sG) sG
 | x::a,y::b,ha,hb,h=>by
  rw [List.pairwise_cons] at ha hb;have hxy:x=y:=by
   have h1:=(h x).1 sG;have h2:=(h y).2 sG;rcases bG.1 h1 with e|h1
   ·exact e
   ·rcases bG.1 h2 with e|h2
    ·exact e.symm
    ·have:=tr _ _ _ (hb.1 x h1) (ha.1 y h2);rw [ir] at this; cases this
  subst hxy;have hnx:∀ {l:List α},(∀ z∈l,lt x z=true)->x∉l:=fun hl hm=>by
   have:=hl x hm;rw [ir] at this; cases this
  rw [Rj ir tr a b ha.2 hb.2 fun z=>?_]
  by_cases hz:z=x
  ·subst hz; exact ⟨fun q=>absurd q (hnx ha.1),fun q=>absurd q (hnx hb.1)⟩
  ·have:=h z
   simpa [hz] using this
end
theorem Jgr(l:Ja)(s:Jb):Hm l s=some (Jga l s):=by
 unfold Hm Jga;rw [Lr];simp only [aA];cases h:Vi l s.El with
 | false=>rfl
 | true=>
  obtain ⟨x,h1,h2⟩:=Wu h;simp [h1,h2,Sn]
theorem Jlu(way:List Jb)(h:way.length<=1048576){i:Nat}{s:Jb}(hs:way[i]? = some s):Is (Jq (Eh way i) 0) fun o=>match o with
  | .inl _=>∀ k t,k<i->way[k]? = some t->t.El≠s.El
  | .inr x=>x=.inr (.inr false)/\∃ k t,k<i/\way[k]? = some t/\t.El=s.El:=by
 have hi:=Qo hs;refine Is.loop (mk:=fun (i:Nat) (_:Unit)=>(i:Int)) i (fun j _=>∀ k t,k<j->way[k]? = some t->t.El≠s.El) () (fun k t hk=>by omega) ?_ ?_
 ·rintro j m hj hI;unfold Eh;refine Is.cond (fun _=>?_) (fun hb=>by simp at hb; omega);refine Is.bind (Is.ixn (Nat.lt_trans hj hi)) fun t ht=>Is.bind (Is.ixn hi) fun u hu=>?_;rw [hs] at hu; cases hu;refine Is.cond (fun hb=>?_) (fun hb=>?_)
  ·exact Is.val ⟨rfl,j,t,hj,ht,by simpa using hb⟩
  ·refine Is.val ⟨(),by rw [Fz oG],fun k u hk hu=>?_⟩
   by_cases e:k=j
   ·subst e; rw [ht] at hu; cases hu; simpa using hb
   ·exact hI k u oG hu
 ·rintro m hI;unfold Eh;exact Is.cond (fun hb=>by simp at hb) (fun _=>Is.val hI)
theorem Jeh(l:Ja)(way:List Jb)(hl:l.Joints.length<=1048576)(h:way.length<=1048576):Is (Ex l way) fun b=>b=true↔Sx l way:=by
 unfold Ex;refine Is.bind (φ:=fun b=>b=true↔(way.length=0\/64<way.length)) ?_ fun b hb=>?_
 ·refine Is.cond (fun hb=>Is.val ?_) (fun hb=>Is.val ?_)
  ·have:((way.length:Nat):Int)=0:=of_decide_eq_true hb;simp only [true_iff]; omega
  ·have:¬ ((way.length:Nat):Int)=0:=of_decide_eq_false hb;rw [decide_eq_true_iff]; omega
 refine Is.cond (fun hb'=>Is.val ?_) (fun hb'=>?_)
 ·have:=hb.1 hb';simp only [aP,Sx,false_iff];omega
 ·have hlen:¬ (way.length=0\/64<way.length):=fun e=>by rw [hb.2 e] at hb'; cases hb'
  refine Is.onInl (θ:=fun o=>match o with|.inl _=>∀ i,i<way.length->Jmx l way i|.inr b=>b=false/\∃ i,i<way.length/\¬ Jmx l way i) ?_ ?_ ?_
  ·refine Is.loop (mk:=fun (i:Nat) (_:Unit)=>(i:Int)) way.length (fun i _=>∀ j,j<i->Jmx l way j) () (fun j hj=>by omega) ?_ ?_
   ·rintro i m hi hI;unfold Lv;refine Is.cond (fun _=>?_) (fun hb=>by simp at hb; omega);refine Is.bind (Is.ixn hi) fun s hs=>?_;rw [Jgr];refine Is.bind (Is.eq rfl) fun r hr=>?_;subst hr;refine Is.cond (fun hb=>Is.val ⟨rfl,i,hi, ?_⟩) (fun hb=>?_)
    ·rintro ⟨s',h1,h2,_⟩;rw [hs] at h1; cases h1;rw [h2] at hb; cases hb
    have hpos:(Jga l s).2=true:=by simpa using hb
    refine Is.onInl (θ:=fun o=>match o with|.inl _=>(∀ p,0<i->way[i - 1]? = some p->Kq l ⟨p.El,p.Out⟩=(⟨s.El,s.In⟩,true))|.inr x=>x=.inr (.inr false)/\¬ Jmx l way i) ?_ ?_ ?_
    ·refine Is.cond (fun h0=>?_) (fun h0=>Is.val fun p hp=>?_)
     ·have hi0:0<i:=by
       have:(0:Int)<i:=of_decide_eq_true h0;omega
      have e:w64 ((i:Int) - 1)=((i - 1:Nat):Int):=by rw [Hz oG oG]; omega
      rw [e];refine Is.bind (Is.ixn oG) fun p hp=>?_;rw [Rh hl];refine Is.bind (Is.eq rfl) fun r hr=>?_;subst hr;refine Is.bind (φ:=fun b=>b=true↔((Kq l ⟨p.El,p.Out⟩).2=false\/(Kq l ⟨p.El,p.Out⟩).1.El≠s.El)) ?_ fun b1 hb1=>?_
      ·refine Is.cond (fun hc=>Is.val ?_) (fun hc=>?_)
       ·simp at hc; simp [hc]
       ·simp at hc;refine Is.bind (Is.ixn hi) fun u hu=>Is.val ?_;rw [hs] at hu; cases hu;simp [hc]
      refine Is.bind (φ:=fun b=>b=true↔((Kq l ⟨p.El,p.Out⟩).2=false\/(Kq l ⟨p.El,p.Out⟩).1.El≠s.El\/(Kq l ⟨p.El,p.Out⟩).1.Side≠s.In)) ?_ fun b2 hb2=>?_
      ·refine Is.cond (fun hc=>Is.val ?_) (fun hc=>?_)
       ·rcases hb1.1 hc with e|e <;> simp [e]
       ·have hc':¬ ((Kq l ⟨p.El,p.Out⟩).2=false\/(Kq l ⟨p.El,p.Out⟩).1.El≠s.El):=fun e=>by rw [hb1.2 e] at hc; cases hc
        refine Is.bind (Is.ixn hi) fun u hu=>Is.val ?_;rw [hs] at hu; cases hu;have h1:¬ (Kq l ⟨p.El,p.Out⟩).2=false:=fun e=>hc' (.inl e);have h2:¬ (Kq l ⟨p.El,p.Out⟩).1.El≠s.El:=fun e=>hc' (.inr e);constructor
        ·intro e;exact .inr (.inr (by simpa using e))
        ·rintro (e|e|e)
         ·exact absurd e h1
         ·exact absurd e h2
         ·simpa using e
      refine Is.cond (fun hc=>Is.val ⟨rfl, ?_⟩) (fun hc=>Is.val fun p' _ hp'=>?_)
      ·rintro ⟨s',h1,_,_,h4⟩;rw [hs] at h1; cases h1;have:=h4 p hi0 hp;rcases hb2.1 hc with e|e|e
       ·rw [this] at e; cases e
       ·rw [this] at e; exact e rfl
       ·rw [this] at e; exact e rfl
      ·rw [hp] at hp'; cases hp';have hc':¬ ((Kq l ⟨p.El,p.Out⟩).2=false\/(Kq l ⟨p.El,p.Out⟩).1.El≠s.El\/(Kq l ⟨p.El,p.Out⟩).1.Side≠s.In):=fun e=>by rw [hb2.2 e] at hc; cases hc
       cases hq:Kq l ⟨p.El,p.Out⟩ with
       | mk e z=>
        cases e;rw [hq] at hc'
        simp_all
     ·have:¬ (0:Int)<i:=of_decide_eq_false h0;omega
    ·intro v hv;refine Is.onInl (Jlu way h hs) ?_ ?_
     ·intro w hw;refine Is.val ⟨(),by rw [Fz oG],fun j hj=>?_⟩
      by_cases e:j=i
      ·subst e; exact ⟨s,hs,hpos,hw,hv⟩
      ·exact hI j oG
     ·rintro x ⟨rfl,k,t,hk,ht,he⟩;refine ⟨rfl,i,hi, ?_⟩;rintro ⟨s',h1,_,h3,_⟩;rw [hs] at h1; cases h1;exact h3 k t hk ht he
    ·rintro x ⟨rfl,hn⟩;exact ⟨rfl,i,hi,hn⟩
   ·rintro m hI;unfold Lv;exact Is.cond (fun hb=>by simp at hb) (fun _=>Is.val hI)
  ·rintro v hv;refine Is.val ?_;simp only [true_iff,Sx];exact ⟨by omega,by omega,hv⟩
  ·rintro b ⟨rfl,i,hi,hn⟩;simp only [aP,false_iff,Sx];exact fun e=>hn (e.2.2 i hi)
theorem Jdr(l:Ja)(way:List Jb)(h:way.length<=1048576):Dh l way=some (w64 (Bt l way)):=by
 unfold Dh;have:Is (Jq (Di l way) (0,0)) fun o=>o=.inl (w64 (Bt l way)):=by
  refine Is.loop (mk:=fun (i:Nat) (x:Int)=>(x,(i:Int))) way.length (fun i x=>x=w64 (Bt l (way.take i))) 0 rfl ?_ ?_
  ·rintro i x hi rfl;unfold Di;refine Is.cond (fun _=>?_) (fun hb=>by simp at hb; omega);refine Is.onInl (θ:=fun o=>o=.inl (w64 (Bt l (way.take (i+1))))) ?_ ?_ ?_
   ·refine Is.bind (Is.ixn hi) fun s hs=>?_;have e:Bt l (way.take (i+1))=Bt l (way.take i)+lenOf l s:=by
     rw [Yg hs,Rr]; simp [Bt]
    rw [Lr];refine Is.bind (Is.eq rfl) fun b hb=>?_;refine Is.cond (fun hb'=>?_) (fun hb'=>?_)
    ·subst hb;refine Is.bind (Is.ixn hi) fun s' hs'=>?_;rw [hs] at hs'; cases hs';obtain ⟨x,h1,h2⟩:=Wu hb';refine Is.bind (Is.eq h1) fun y hy=>?_;subst hy;refine Is.val ?_;rw [e,Jwk];simp [lenOf,hb',h2]
    ·subst hb;refine Is.val ?_;rw [e];simp [lenOf,hb']
   ·rintro v hv;cases hv;exact Is.val ⟨_,by rw [Fz oG],rfl⟩
   ·intro b hb; cases hb
  ·rintro x rfl;unfold Di;refine Is.cond (fun hb=>by simp at hb) (fun _=>Is.val ?_);rw [bA]
 obtain ⟨o,h1,rfl⟩:=this;simp [h1,onInl,Wk]
def Jkp(L:List Int):List Int:=L.foldl (fun acc x=>if x∈acc then acc else acc++[x]) []
theorem Jl6(L:List Int)(x:Int):Jkp (L++[x])=if x∈Jkp L then Jkp L else Jkp L++[x]:=by
 unfold Jkp;rw [List.foldl_append]
 rfl
theorem Jxf(L:List Int):(Jkp L).length<=L.length:=by
 induction L using Jem with
 | h0=>simp [Jkp]
 | h1 l x ih=>
  rw [Jl6];split <;> simp <;> omega
def Jov(l:Ja)(s:Jb):Option Int:=bif Vi l s.El then (l.Elements[s.El.toNat]?).map (·.Section) else none
def Jb1(l:Ja)(way:List Jb):List Int:=Jkp (way.filterMap (Jov l))
theorem Jyb(l:Ja)(way:List Jb)(s:Jb):Jb1 l (way++[s])=match Jov l s with|some x=>if x∈Jb1 l way then Jb1 l way else Jb1 l way++[x]|none=>Jb1 l way:=by
 unfold Jb1;rw [List.filterMap_append,List.filterMap_cons,List.filterMap_nil];cases Jov l s with
 | none=>simp
 | some x=>rw [Jl6]
theorem Jna(l:Ja)(way:List Jb):(Jb1 l way).length<=way.length:=bP (Jxf _) (List.length_filterMap_le _ _)
theorem Jrs(L:List Int)(x:Int)(h:L.length<=1048576):Rv L x=some (decide (x∈L)):=by
 unfold Rv;rw [Jfy (fun y=>decide (y=x)) (fun _=>.inr true) (.inl ()) L oG]
 ·cases hf:L.find? (fun y=>decide (y=x)) with
  | none=>
   have:¬ x∈L:=fun hm=>by
    have:=List.find?_eq_none.1 hf x hm;simp at this
   simp [this,onInl,Wk]
  | some y=>
   have h1:=List.find?_some hf;have h2:=List.mem_of_find?_eq_some hf;simp at h1; subst h1;simp [h2,onInl,Wk]
 ·intro i y hy;have hi:=Qo hy;simp only [Pz,Qm hy,show decide ((i:Int)<((L.length:Nat):Int))=true by simp; omega,cond_true,aA]
 ·simp [Pz]
theorem Pb(l:Ja)(way:List Jb)(h:way.length<=1000000):Wc l way=some (Jb1 l way):=by
 unfold Wc;have:Is (Jq (Bo l way) (0,[])) fun o=>o=.inl (Jb1 l way):=by
  refine Is.loop (mk:=fun (i:Nat) (m:List Int)=>((i:Int),m)) way.length (fun i m=>m=Jb1 l (way.take i)) [] rfl ?_ ?_
  ·rintro i m hi rfl;unfold Bo;refine Is.cond (fun _=>?_) (fun hb=>by simp at hb; omega);have hlen:(Jb1 l (way.take i)).length<=i:=bP (Jna _ _) (by simp; omega);refine Is.onInl (θ:=fun o=>o=.inl (Jb1 l (way.take (i+1)))) ?_ ?_ (fun b hb=>by cases hb)
   ·refine Is.bind (Is.ixn hi) fun s hs=>?_;rw [Lr,Yg hs,Jyb];refine Is.bind (Is.eq rfl) fun b hb=>?_;cases hE:Vi l s.El with
    | false=>
     subst hb;rw [hE];exact Is.val (by simp [Jov,hE])
    | true=>
     subst hb;rw [hE];obtain ⟨x,h1,h2⟩:=Wu hE;have hso:Jov l s=some x.Section:=by simp [Jov,hE,h2]
     rw [hso];refine Is.bind (φ:=fun b=>b = !decide (x.Section∈Jb1 l (way.take i))) (Is.cond (fun _=>?_) (fun e=>by cases e)) fun b hb=>?_
     ·refine Is.bind (Is.ixn hi) fun s' hs'=>?_;rw [hs] at hs'; cases hs';rw [h1];refine Is.bind (Is.eq rfl) fun y hy=>?_;subst hy;rw [Jrs _ _ oG];exact Is.val rfl
     ·subst hb
      by_cases hm:x.Section∈Jb1 l (way.take i)
      ·simp only [hm,decide_true,aY,cond_false,if_pos];exact Is.val rfl
      ·simp only [hm,decide_false,cL,cond_true,if_false];refine Is.bind (Is.ixn hi) fun s' hs'=>?_;rw [hs] at hs'; cases hs';rw [h1];refine Is.bind (Is.eq rfl) fun y hy=>?_;subst hy;refine Is.bind (Is.app ?_) fun M hM=>?_
       ·simp only [aE,aN,Jx,Enc.b]; omega
       ·subst hM; exact Is.val rfl
   ·rintro v hv;cases hv;exact Is.val ⟨_,by rw [Fz oG],rfl⟩
  ·rintro m rfl;unfold Bo;exact Is.cond (fun hb=>by simp at hb) (fun _=>Is.val (by rw [bA]))
 obtain ⟨o,h1,rfl⟩:=this;simp [h1,onInl,Wk]
theorem Jgq(x y:Jf):Wd x y=true↔x=y:=by
 cases x; cases y; simp [Wd]
instance : DecidableEq Jf:=fun x y=>decidable_of_iff _ (Jgq x y)
theorem Jqd(x y:Jf):Wd x y=decide (x=y):=by
 rw [dR,Jgq,decide_eq_true_iff]
theorem Jtz(o:Nat){n i:Nat}(h:i<n):Vz o n (i:Int)=some (o+i):=by
 unfold Vz;rw [if_pos oG]; rfl
theorem Jwj{α:Type}{L:List α}{n j:Nat}(h:L.length=n):Uy L n j=L[j]?:=by
 unfold Uy;rw [if_pos h]
def ltS(x y:Jf):Bool:=decide (x.El<y.El\/(x.El=y.El/\x.Pos<y.Pos))
theorem Jag(x y:Jf):ltS x y=decide (x.El<y.El\/(x.El=y.El/\x.Pos<y.Pos)):=rfl
theorem Kcx(x:Jf):ltS x x=false:=by rw [Jag]; simp
theorem Jqt(x y z:Jf)(h1:ltS x y=true)(h2:ltS y z=true):ltS x z=true:=by
 rw [Jag,decide_eq_true_iff] at *; omega
theorem Jq9(x y:Jf)(h:ltS y x=false):x=y\/ltS x y=true:=by
 rw [Jag] at h ⊢;simp only [decide_eq_false_iff_not,decide_eq_true_eq] at h ⊢;obtain ⟨a,b⟩:=x;obtain ⟨c,d⟩:=y;simp only [Jf.mk.injEq] at h ⊢;omega
def Asc(l:List Jf):Prop:=l.Pairwise fun x y=>ltS x y=true
theorem Asc.one{a b:List Jf}(ha:Asc a)(hb:Asc b)(h:∀ x,x∈a↔x∈b):a=b:=Rj Kcx Jqt a b ha hb h
def Jwt(l:Ja)(s:Jb):Option Jf:=bif (Jga l s).2 && !decide ((Jga l s).1=0) then some ⟨s.El,(Jga l s).1⟩ else none
def Jod(l:Ja)(way:List Jb):List Jf:=way.filterMap (Jwt l)
def Jkt(l:Ja)(way:List Jb):List Jf:=ddS ((Jod l way).mergeSort fun x y=> !ltS y x)
theorem Jxa(l:Ja)(way:List Jb)(s:Jb):Jod l (way++[s])=Jod l way++(Jwt l s).toList:=by
 unfold Jod;rw [List.filterMap_append,List.filterMap_cons,List.filterMap_nil];cases Jwt l s <;> rfl
theorem Jyz(l:Ja)(way:List Jb):(Jod l way).length<=way.length:=List.length_filterMap_le _ _
theorem Kay(l:Ja)(way:List Jb)(x:Jf):x∈Jkt l way↔x∈Jod l way:=by
 rw [Jkt,Jre,(cX _ _).mem_iff]
theorem Jmv(l:Ja)(way:List Jb):(Jkt l way).length<=way.length:=by
 refine bP (Jrf _) ?_;rw [(cX _ _).length_eq];exact Jyz l way
theorem Ka3(l:Ja)(way:List Jb):Asc (Jkt l way):=by
 refine Jhe Jqt Jq9 _ ?_;have:=List.pairwise_mergeSort (le:=fun x y=> !ltS y x) (fun a b c h1 h2=>?_) (fun a b=>?_) (Jod l way)
 ·exact this.imp fun h=>by simpa using h
 ·simp only [Jag,bK,decide_eq_false_iff_not] at *; omega
 ·cases h:ltS b a with
  | false=>rfl
  | true=>
   have:ltS a b=false:=by rw [Jag,decide_eq_true_iff] at h; rw [Jag,decide_eq_false_iff_not]; omega
   simp [this]
theorem Jk2(L:List Jf)(x:Jf)(hL:Asc L)(h:L.length<=1000000):Is (Ge L x) fun M=>Asc M/\(∀ y,y∈M↔y∈L\/y=x)/\M.length<=L.length+1:=by
 unfold Ge;refine Is.onInl (θ:=fun o=>match o with|.inl r=>∃ i:Nat,r.2=(i:Int)/\i<=L.length/\r.1=L.take i/\(∀ y∈L.take i,ltS y x=true)/\(∀ y,L[i]? = some y->ltS y x=false)|.inr _=>False) ?_ ?_ (fun b hb=>hb.elim)
 ·refine Is.loop (mk:=fun (i:Nat) (m:List Jf)=>((i:Int),m)) L.length (fun i m=>m=L.take i/\∀ y∈L.take i,ltS y x=true) [] ⟨rfl,fun y hy=>by simp at hy⟩ ?_ ?_
  ·rintro i m hi ⟨rfl,hI⟩;unfold Hi;obtain ⟨y,hy⟩:∃ y,L[i]? = some y:=⟨_,aB hi⟩
   have e0:decide ((i:Int)<((L.length:Nat):Int))=true:=decide_eq_true oG;simp only [Qm hy,e0,cond_true,aA];refine Is.bind (φ:=fun b=>b=ltS y x) ?_ fun b hb=>?_
   ·rw [Jag]
    by_cases h1:y.El<x.El
    ·simp only [h1,decide_true,cond_true,true_or]; exact Is.val rfl
    ·by_cases h2:y.El=x.El
     ·simp only [h2,Int.lt_irrefl,decide_false,decide_true,cond_true,cond_false,aA,false_or,true_and]; exact Is.val rfl
     ·simp only [h1,h2,decide_false,cond_false,aA,false_or,false_and]; exact Is.val rfl
   ·subst hb;refine Is.cond (fun hc=>?_) (fun hc=>Is.val ⟨i,rfl,by omega,rfl,hI,fun z hz=>?_⟩)
    ·refine Is.bind (Is.app ?_) fun M hM=>?_
     ·simp only [aU,aE,aN,Jx,Enc.b]; omega
     ·subst hM;refine Is.val ⟨_,by rw [Fz oG],by rw [Yg hy],fun z hz=>?_⟩;rw [Yg hy] at hz;rcases aW.1 hz with hz|hz
      ·exact hI z hz
      ·simp at hz; subst hz; exact hc
    ·rw [hy] at hz; cases hz; exact hc
  ·rintro m ⟨rfl,hI⟩;unfold Hi;have e0:decide (((L.length:Nat):Int)<((L.length:Nat):Int))=false:=decide_eq_false oG;simp only [e0,cond_false,aA];exact Is.val ⟨L.length,rfl,aI _,rfl,hI,fun y hy=>by simp at hy⟩
 ·rintro ⟨m,k⟩ ⟨i,hk,hi,hm,hI,hn⟩;simp only at hk hm;subst hk hm;refine Is.onInl (θ:=fun o=>∃ M,o=.inl M/\Asc (M++L.drop i)/\(∀ y,y∈M++L.drop i↔y∈L\/y=x)/\M.length<=i+1) ?_ ?_ (fun b hb=>by obtain ⟨M,hM,_⟩:=hb; cases hM)
  ·have hsplit:L.take i++L.drop i=L:=bZ i L;have hmem:∀ y,y∈L.take i++L.drop i↔y∈L:=fun y=>by rw [hsplit]
   have hL':=hL;unfold Asc at hL';rw [<- hsplit,bW] at hL';refine Is.bind (φ:=fun b=>b=decide (L[i]? ≠ some x)) ?_ fun b hb=>?_
   ·refine Is.cond (fun hc=>Is.val ?_) (fun hc=>?_)
    ·have:i=L.length:=by have:=of_decide_eq_true hc; omega
     subst this; simp
    ·have:i<L.length:=by have:=of_decide_eq_false hc; omega
     refine Is.bind (Is.ixn this) fun y hy=>Is.val ?_;rw [hy,Jqd]
     by_cases e:y=x <;> simp [e]
   subst hb
   by_cases e:L[i]? = some x
   ·simp only [e,ne_eq,not_true,decide_false,cond_false];refine Is.val ⟨L.take i,rfl,by rw [hsplit]; exact hL,fun y=>?_,by simp; omega⟩;rw [hmem];exact ⟨.inl,fun q=>q.elim id fun q=>by subst q; exact aD e⟩
   ·simp only [e,ne_eq,not_false_eq_true,decide_true,cond_true];refine Is.bind (Is.app ?_) fun M hM=>?_
    ·simp only [aU,aE,aN,Jx,Enc.b]; omega
    ·subst hM;refine Is.val ⟨_,rfl, ?_,fun y=>?_,by simp; omega⟩
     ·have hxd:∀ y∈L.drop i,ltS x y=true:=by
       intro y hy;cases hd:L[i]? with
       | none=>
        have:L.length<=i:=by simpa using hd
        rw [cQ this] at hy; cases hy
       | some z=>
        have hi':=Qo hd;have ez:L[i]=z:=by rw [aB hi'] at hd; exact cN hd
        have hxz:ltS x z=true:=by
         rcases Jq9 x z (hn z hd) with q|q
         ·exact absurd (q▸hd) e
         ·exact q
        rw [cS hi',ez] at hy;have hp:=hL'.2.1;rw [cS hi',ez,List.pairwise_cons] at hp;rcases bG.1 hy with q|q
        ·subst q; exact hxz
        ·exact Jqt x z y hxz (hp.1 y q)
      unfold Asc;rw [cR,bW];refine ⟨hL'.1, ?_,fun a ha b hb=>?_⟩
      ·rw [List.singleton_append,List.pairwise_cons];exact ⟨hxd,hL'.2.1⟩
      ·rcases aW.1 hb with q|q
       ·simp at q; subst q; exact hI a ha
       ·exact hL'.2.2 a ha b q
     ·rw [<- hmem];simp only [aW,cG];constructor
      ·rintro ((q|q)|q)
       ·exact .inl (.inl q)
       ·exact .inr q
       ·exact .inl (.inr q)
      ·rintro ((q|q)|q)
       ·exact .inl (.inl q)
       ·exact .inr q
       ·exact .inl (.inr q)
  ·rintro M ⟨M',hM',hA,hm,hl⟩;cases hM';rw [Jlz hi];refine Is.bind (Is.eq rfl) fun y hy=>?_;subst hy;refine Is.bind (Is.app ?_) fun M' hM'=>?_
   ·simp only [bV,Jx,Enc.b]; omega
   ·subst hM';refine Is.val ⟨hA,hm, ?_⟩;simp only [aM,bV]; omega
theorem Ja5(l:Ja)(way:List Jb)(h:way.length<=1000000):Zu l way=some (Jkt l way):=by
 unfold Zu;have:Is (Jq (Bl l way) (0,[])) fun o=>o=.inl (Jkt l way):=by
  refine Is.loop (mk:=fun (i:Nat) (m:List Jf)=>((i:Int),m)) way.length (fun i m=>Asc m/\(∀ x,x∈m↔x∈Jod l (way.take i))/\m.length<=i) [] ⟨List.Pairwise.nil,fun x=>by simp [Jod],aI _⟩ ?_ ?_
  ·rintro i m hi ⟨hA,hm,hl⟩;unfold Bl;refine Is.cond (fun _=>?_) (fun hb=>by simp at hb; omega);refine Is.onInl (θ:=fun o=>match o with|.inl m=>Asc m/\(∀ x,x∈m↔x∈Jod l (way.take (i+1)))/\m.length<=i+1|.inr _=>False) ?_ ?_ (fun b hb=>hb.elim)
   ·refine Is.bind (Is.ixn hi) fun s hs=>?_;rw [Jgr,Yg hs,Jxa];refine Is.bind (Is.eq rfl) fun p hp=>?_;subst hp;unfold Jwt;cases (Jga l s).2 && !decide ((Jga l s).1=0) with
    | false=>exact Is.val ⟨hA,fun x=>by simpa using hm x,by omega⟩
    | true=>
     refine Is.bind (Is.ixn hi) fun s' hs'=>?_;rw [hs] at hs'; cases hs';refine Is.bind (Jk2 m _ hA oG) fun M hM=>Is.val ⟨hM.1,fun x=>?_,by have:=hM.2.2; omega⟩;rw [hM.2.1,hm]; simp
   ·rintro v hv;exact Is.val ⟨v,by rw [Fz oG],hv⟩
  ·rintro m ⟨hA,hm,-⟩;unfold Bl;refine Is.cond (fun hb=>by simp at hb) (fun _=>Is.val ?_);rw [bA] at hm;rw [Asc.one hA (Ka3 l way) fun x=>by rw [hm,Kay]]
 obtain ⟨o,h1,rfl⟩:=this;simp [h1,onInl,Wk]
theorem Jw7{α:Type}[DecidableEq α]:∀ {a b:List α},a.Nodup->(∀ x∈a,x∈b)->a.length<=b.length
 | [],_,_,_=>cT _
 | x::r,b,ha,h=>by
  rw [List.nodup_cons] at ha;have hx:=h x List.mem_cons_self;have:=Jw7 (b:=b.erase x) ha.2 fun y hy=>(List.mem_erase_of_ne (fun e:y=x=>ha.1 (e▸hy))).2 (h y (dC _ hy));rw [List.length_erase_of_mem hx] at this;have hp:=List.length_pos_of_mem hx;simp only [aE]; omega
def okB(i:Nat)(c:Nat):Prop:=(97<=c/\c<=122)\/(((48<=c/\c<=57)\/c=95)/\i≠0)
def Jdm(s:ByteArray):Prop:=1<=s.size/\s.size<=12/\∀ i (h:i<s.size),okB i (s[i]'h).toNat
def Rd(l:Ja):Prop:=1<=l.Elements.length/\l.Elements.length<=32/\1<=l.Sections.length/\l.Sections.length<=24/\l.Signals.length<=20/\l.Balises.length<=24
def Jcl(l:Ja):Prop:=Jdm l.Name/\(∀ s∈l.Sections,Jdm s)/\(∀ s∈l.Elements.map (·.Name),Jdm s)/\(∀ s∈l.Signals.map (·.Name),Jdm s)
def Js9(l:Ja):Prop:=l.Sections.Nodup/\(l.Elements.map (·.Name)).Nodup/\(l.Signals.map (·.Name)).Nodup
def Jc7(l:Ja)(x:Kg):Prop :=
 (1<=x.Kind/\x.Kind<=3)/\(500<=x.Length/\x.Length<=1000000)/\(-50<=x.Grade/\x.Grade<=50)/\(100<=x.Speed/\x.Speed<=10000)/\(0<=x.Section/\x.Section<(l.Sections.length:Nat)) /\
  (x.Kind=2->100<=x.Slow/\x.Slow<=x.Speed)/\(x.Kind≠2->x.Slow=0)
def Kga(l:Ja):Prop:=∀ s,s<l.Sections.length->∃ x∈l.Elements,x.Section=(s:Nat)
def Jjx(l:Ja):Prop:=(∀ x∈l.Elements,Jc7 l x)/\Kga l
def Jd6(l:Ja):Prop:=∀ j∈l.Joints,exS l j.A=true/\exS l j.B=true/\j.A≠j.B
def Jtr(l:Ja):Prop:=∀ s∈l.Signals,exS l s.At=true/\0<=s.Overlap/\s.Overlap<=1000000
def Jvg(l:Ja)(i:Int):Int:=bif Vi l i then ((l.Elements[i.toNat]?).map (·.Section)).getD (-1) else -1
def Jsy(l:Ja):Prop:=∀ s∈l.Signals,(Kq l s.At).2=true/\Jvg l (Kq l s.At).1.El≠Jvg l s.At.El
def Jv0(l:Ja)(i:Int):Int:=((l.Elements[i.toNat]?).map (·.Length)).getD 0
def Jvm(l:Ja):Prop:=∀ b∈l.Balises,1<=b.Id/\b.Id<=1073741824/\Vi l b.El=true/\0<=b.Offset/\b.Offset<=Jv0 l b.El
open Classical in
noncomputable def chk(l:Ja):Int :=
 if ¬ Rd l then 2 else if ¬ Jcl l then 3 else if ¬ Js9 l then 8 else if ¬ Jjx l then 1 else if ¬ Jd6 l then 1 else if ¬ (Nz l.Joints).Nodup then 8 else
 if ¬ Jtr l then 1 else if ¬ (l.Signals.map (·.At)).Nodup then 8 else if ¬ Jsy l then 14 else if ¬ Jvm l then 1 else if ¬ (l.Balises.map (·.Id)).Nodup then 8 else 0
theorem Fa{b x y:Bool}:(bif b then some x else some y)=some (bif b then x else y):=by cases b <;> rfl
theorem Ju0(a b c:Int):Kx a b c=some (decide (b<=a/\a<=c)):=by simp [Kx]
theorem Jea(s:ByteArray)(h:s.size<=1048576):Is (Gz s) fun b=>b=true↔Jdm s:=by
 unfold Gz;refine Is.onInl (θ:=fun o=>match o with|.inl _=>∀ k (hk:k<s.size),okB k (s[k]'hk).toNat|.inr b=>b=false/\¬ Jdm s) ?_ (fun _ hv=>Is.val ?_) (fun b hb=>show b=true↔Jdm s from ?_)
 ·refine Is.loop (mk:=fun (i:Nat) (_:Unit)=>(i:Int)) s.size (fun i _=>∀ k (hk:k<s.size),k<i->okB k (s[k]'hk).toNat) () (fun k hk hi=>by omega) ?_ ?_
  ·rintro i m hi hI;unfold Np;refine Is.inb hi ?_;obtain ⟨c,hc,rfl⟩:=Is.six hi;simp only [hc,aA,Fa,dF,bC];refine Is.ite (p:=¬ okB i (s[i]'hi).toNat) (by simp [okB]; omega) (fun hn=>Is.val ⟨rfl,fun hN=>hn (hN.2.2 i hi)⟩) (fun hn=>Is.val ⟨(),by rw [Fz oG],fun k hk hki=>?_⟩)
   by_cases e:k=i
   ·subst e; exact bH.1 hn
   ·exact hI k hk oG
  ·rintro m hI;unfold Np;exact Is.oub (Is.val fun k hk=>hI k hk hk)
 ·have hv:∀ k (hk:k<s.size),okB k (s[k]'hk).toNat:=hv;simp only [aF,decide_eq_true_eq,Jdm];constructor
  ·rintro ⟨h1,h2⟩; exact ⟨by omega,by omega,hv⟩
  ·rintro ⟨h1,h2,_⟩; exact ⟨by omega,by omega⟩
 ·have hb:b=false/\¬ Jdm s:=hb;rw [hb.1];exact ⟨fun e=>absurd e cF,fun e=>absurd e hb.2⟩
instance (priority:=1) endDec:DecidableEq Je:=fun x y=>decidable_of_iff _ (Mo x y)
theorem Jqk(l:Ja)(x:Kg)(h:l.Sections.length<=1048576) :
  (Jc7 l x↔((((1<=x.Kind/\x.Kind<=3)/\(500<=x.Length/\x.Length<=1000000))/\(-50<=x.Grade/\x.Grade<=50))/\(100<=x.Speed/\x.Speed<=10000))/\(0<=x.Section/\x.Section<=w64 (((l.Sections.length:Nat):Int) - 1)) /\
   ¬ ((x.Kind=2/\¬ (100<=x.Slow/\x.Slow<=x.Speed))\/(x.Kind≠2/\x.Slow≠0))):=by
 rw [Hz oG oG];unfold Jc7
 by_cases h2:x.Kind=2 <;> simp [h2] <;> omega
theorem Jz9{l:Ja}(h:Sm l):Is (Yq l) fun b=>b=true↔∀ x∈l.Elements,Jc7 l x:=by
 unfold Yq;have g1:=h.sec; have g2:=h.el;refine Is.all (L:=l.Elements) (fun _ x=>Jc7 l x) () oG (fun i x hx hi _=>?_) ?_ (fun hn=>?_)
 ·unfold Zh;have hm:=aD hx;refine Is.inb hi (Is.at hx ?_);simp only [Ju0,aA,Fa,bC,dF];have e:=Jqk l x g1;refine Is.ite (p:=¬ ((((1<=x.Kind/\x.Kind<=3)/\(500<=x.Length/\x.Length<=1000000))/\(-50<=x.Grade/\x.Grade<=50))/\(100<=x.Speed/\x.Speed<=10000))\/¬ (0<=x.Section/\x.Section<=w64 (((l.Sections.length:Nat):Int) - 1)))
   (by simp only [cM,bK,decide_eq_false_iff_not]; omega) (fun hb=>Is.val ?_) (fun hb=>?_)
  ·refine iff_of_false cF fun q=>?_;have:=e.1 (q x hm); omega
  ·refine Is.ite (p:=(x.Kind=2/\¬ (100<=x.Slow/\x.Slow<=x.Speed))\/(x.Kind≠2/\x.Slow≠0)) (by simp only [cM,aF,bK,decide_eq_false_iff_not,decide_eq_true_eq,ne_eq]) (fun hc=>Is.val ?_) (fun hc=>Is.val ⟨rfl, ?_⟩)
   ·refine iff_of_false cF fun q=>?_;exact (e.1 (q x hm)).2.2 hc
   ·exact e.2 ⟨by omega,by omega,hc⟩
 ·simp [Zh]
 ·exact Is.val (iff_of_true rfl (Vo.1 hn))
def Je6(s:Int)(L:List Kg):Nat->List Int
 | 0=>[]
 | n+1=>Je6 s L n++(match L[n]? with|some x=>if x.Section=s then [(n:Int)] else []|none=>[])
theorem Jmp(s:Int)(L:List Kg):∀ n,(Je6 s L n).length<=n
 | 0=>aI _
 | n+1=>by
  have ih:=Jmp s L n;simp only [Je6,aM];split
  ·split <;> simp <;> omega
  ·simp; omega
theorem Jma{s:Int}{L:List Kg}{k:Int}:∀ {n},k∈Je6 s L n↔∃ i x,i<n/\L[i]? = some x/\x.Section=s/\k=(i:Nat)
 | 0=>by simp [Je6]
 | n+1=>by
  simp only [Je6,aW,Jma (n:=n)];constructor
  ·rintro (⟨i,x,h1,h2⟩|h)
   ·exact ⟨i,x,by omega,h2⟩
   ·split at h
    ·rename_i x hx;split at h
     ·rename_i hs;exact ⟨n,x,by omega,hx,hs,by simpa using h⟩
     ·cases h
    ·cases h
  ·rintro ⟨i,x,h1,h2,h3,h4⟩
   by_cases e:i=n
   ·subst e
    right
    rw [h2];simp [h3,h4]
   ·exact .inl ⟨i,x,by omega,h2,h3,h4⟩
theorem Kai{s:Int}{L:List Kg}:(Je6 s L L.length).length=0↔¬ ∃ x∈L,x.Section=s:=by
 rw [List.length_eq_zero_iff,List.eq_nil_iff_forall_not_mem];constructor
 ·rintro h ⟨x,hx,e⟩;obtain ⟨i,hi⟩:=aX hx;exact h i (Jma.2 ⟨i,x,Qo hi,hi,e,rfl⟩)
 ·rintro h k hk;obtain ⟨i,x,_,h2,h3,_⟩:=Jma.1 hk;exact h ⟨x,aD h2,h3⟩
def Rz(l:Ja)(s:Int):List Int:=if 0<=s/\s<(l.Sections.length:Nat) then Je6 s l.Elements l.Elements.length else []
theorem Jw8{l:Ja}(h:l.Elements.length<=1048576)(s:Int):Zw l s=some (Rz l s):=by
 suffices hs:Is (Zw l s) fun r=>r=Rz l s by
  obtain ⟨r,h1,h2⟩:=hs; rw [h1,h2]
 unfold Zw;simp only [Fa,aA,bC];refine Is.ite (p:=¬ (0<=s/\s<(l.Sections.length:Nat))) (by simp; omega) (fun hb=>Is.val (by rw [Rz,if_neg hb])) (fun hb=>?_);rw [Rz,if_pos (bH.1 hb)];refine Is.fold (L:=l.Elements) (mk:=fun i m=>(i,m)) (fun i m=>m=Je6 s l.Elements i) [] oG rfl (fun i x m hx hi hI=>?_) (fun m hI=>?_)
 ·subst hI;unfold Dw;refine Is.inb hi ?_;refine Is.onInl (θ:=fun o=>o=.inl (Je6 s l.Elements (i+1))) (Is.at hx (Is.ite Qb (fun hc=>?_) (fun hc=>Is.val ?_))) (fun v hv=>?_) (fun b hb=>by cases hb)
  ·have:=Jmp s l.Elements i;refine Is.bind (Is.app (by simp only [aE,aN,Jx,Enc.b]; omega)) fun M hM=>Is.val ?_;rw [hM]; simp [Je6,hx,hc]
  ·simp [Je6,hx,hc]
  ·cases hv; exact Is.val ⟨_,rfl,rfl⟩
 ·subst hI;unfold Dw;exact Is.oub (Is.val (Is.val rfl))
theorem Jiz{l:Ja}(h:l.Elements.length<=1048576)(s:Int):Cc l s=some (Rz l s):=by
 suffices hs:Is (Cc l s) fun r=>r=Rz l s by
  obtain ⟨r,h1,h2⟩:=hs; rw [h1,h2]
 unfold Cc;refine Is.fold (L:=l.Elements) (mk:=fun i m=>(i,m)) (fun i m=>m=if 0<=s/\s<(l.Sections.length:Nat) then Je6 s l.Elements i else []) [] oG (by simp [Je6]) (fun i x m hx hi hI=>?_) (fun m hI=>?_)
 ·unfold Fr;refine Is.inb hi ?_;refine Is.onInl (θ:=fun o=>o=.inl (if 0<=s/\s<(l.Sections.length:Nat) then Je6 s l.Elements (i+1) else [])) (Is.at hx ?_) (fun v hv=>?_) (fun b hb=>by cases hb)
  ·simp only [Fa,aA,dF];refine Is.ite (p:=x.Section=s/\0<=s/\s<(l.Sections.length:Nat)) (by simp; omega) (fun hc=>?_) (fun hc=>Is.val ?_)
   ·rw [if_pos hc.2] at hI ⊢;have:=Jmp s l.Elements i;refine Is.bind (Is.app (by subst hI; simp only [aE,aN,Jx,Enc.b]; omega)) fun M hM=>Is.val ?_;rw [hM,hI]; simp [Je6,hx,hc.1]
   ·subst hI
    by_cases hr:0<=s/\s<(l.Sections.length:Nat)
    ·have:¬ x.Section=s:=fun e=>hc ⟨e,hr⟩;rw [if_pos hr,if_pos hr]; simp [Je6,hx,this]
    ·rw [if_neg hr,if_neg hr]
  ·cases hv; exact Is.val ⟨_,rfl,rfl⟩
 ·unfold Fr;exact Is.oub (Is.val (Is.val hI))
theorem Jrc{l:Ja}{s:Nat}(h:s<l.Sections.length):(((Rz l (s:Int)).length:Nat):Int)=0↔¬ ∃ x∈l.Elements,x.Section=(s:Nat):=by
 rw [Rz,if_pos oG];rw [<- Kai]; omega
theorem Kby(e:Je):Kc e e=true:=(Mo e e).2 rfl
theorem Jty{e f:Je}(h:e≠f):Kc e f=false:=by
 cases q:Kc e f
 ·rfl
 ·exact absurd ((Mo e f).1 q) h
def Jas(L:List Kj)(e:Je):Int:=match L.findIdx? fun s=>Kc s.At e with|some i=>(i:Nat)|none=> -1
theorem Jpv{L:List Kj}{e:Je}{i:Nat}{x:Kj}(hx:L[i]? = some x)(hi:x.At=e)(hp:∀ j y,j<i->L[j]? = some y->y.At≠e):Jas L e=(i:Nat):=by
 have:L.findIdx? (fun s=>Kc s.At e)=some i:=by
  obtain ⟨h1,h2⟩:=aH.1 hx;rw [dK];refine ⟨h1,by rw [h2,hi]; exact Kby e,fun j hj=>?_⟩;rw [Jty (hp j L[j] hj (aB oG))]; simp
 rw [Jas,this]
theorem Jpr{L:List Kj}{e:Je}(h:∀ s∈L,s.At≠e):Jas L e = -1:=by
 have:L.findIdx? (fun s=>Kc s.At e)=none:=by
  rw [List.findIdx?_eq_none_iff];exact fun s hs=>Jty (h s hs)
 rw [Jas,this]
theorem Ju2{α:Type}(L:List α)(eqb:α->α->Bool)(heq:∀ x y,eqb x y=true↔x=y)(hL:L.length<=4194304){s1:Int->Int->Option (Int⊕(Unit⊕(Int⊕(Unit⊕Bool))))}{s0:Int->Option (Int⊕(Unit⊕Bool))}(h1:∀ i k,s1 i k=bif decide (k<i) then ((ixO L i).bind fun x=>(ixO L k).bind fun y=>bif eqb x y then some (.inr (.inr (.inr (.inr true)))) else some (.inl (w64 (k+1)))) else some (.inr (.inl ())))(h0:∀ i,s0 i=bif decide (i<((L.length:Nat):Int)) then onInl (Jq (s1 i) 0) (fun _=>some (.inl (w64 (i+1)))) else some (.inr (.inl ()))) :
  Is (onInl (Jq s0 0) fun _=>some false) fun b=>b=true↔¬ L.Nodup:=by
 refine Is.all (L:=L) (fun i x=>∀ j y,j<i->L[j]? = some y->y≠x) () oG (fun i x hx hi _=>?_) ?_ (fun h=>Is.val ?_)
 ·rw [h0];refine Is.inb hi ?_;have hlen:(L.take i).length=i:=by rw [aU]; omega
  refine Is.all (L:=L.take i) (fun _ y=>y≠x) () oG (fun k y hy hk _=>?_) ?_ (fun hn=>Is.val ⟨rfl,fun j y hj hy=>?_⟩)
  ·rw [h1];rw [hlen] at hk;rw [cO,if_pos hk] at hy;refine Is.inb hk (Is.at hx (Is.at hy (Is.ite (heq x y) (fun hc=>Is.val ?_) (fun hc=>Is.val ⟨rfl,fun e=>hc e.symm⟩))));refine iff_of_true rfl fun hn=>?_;obtain ⟨g1,g2⟩:=aH.1 hx;obtain ⟨g3,g4⟩:=aH.1 hy;exact dJ.1 hn k i g3 g1 hk (by rw [g2,g4,hc])
  ·rw [h1,hlen]; simp
  ·exact hn j y (by rw [cO,if_pos hj]; exact hy)
 ·rw [h0]; simp
 ·refine iff_of_false cF (fun q=>q ?_);rw [List.Nodup,dJ];intro i j hi hj hij;exact h j L[j] (aB hj) i L[i] hij (aB hi)
theorem Ss(L:List ByteArray)(h:L.length<=4194304):Is (Ev L) fun b=>b=true↔¬ L.Nodup :=
 Ju2 L (fun x y=>decide (x=y)) (fun _ _=>Qb) h (fun _ _=>rfl) (fun _=>rfl)
theorem Jew(L:List Je)(h:L.length<=4194304):Is (Oo L) fun b=>b=true↔¬ L.Nodup :=
 Ju2 L Kc Mo h (fun _ _=>rfl) (fun _=>rfl)
theorem Jhx(L:List Int)(h:L.length<=4194304):Is (Lo L) fun b=>b=true↔¬ L.Nodup :=
 Ju2 L (fun x y=>decide (x=y)) (fun _ _=>Qb) h (fun _ _=>rfl) (fun _=>rfl)
theorem Jk7{l:Ja}(h:Sm l):Is (Ii l) fun e=>(¬ Rd l/\e=2)\/(Rd l/\¬ Jcl l/\e=3)\/(Rd l/\Jcl l/\¬ Js9 l/\e=8)\/(Rd l/\Jcl l/\Js9 l/\e=0):=by
 unfold Ii;have h1:=h.sec; have h2:=h.el; have h3:=h.sg;simp only [aA,Fa,bC];refine Is.ite (p:=¬ Rd l) (by simp [Rd]; omega) (fun hc=>Is.val (.inl ⟨hc,rfl⟩)) (fun hc=>?_);have hc:Rd l:=bH.1 hc;refine Is.bind (Jmc h) fun r hr=>?_;obtain ⟨e0,e1,e2⟩:=hr;rw [e0,e1,e2];refine Is.bind (Is.app (by simp only [aE,aN,Jx,Enc.b]; omega)) fun x7 hx7=>?_;subst hx7;refine Is.bind (Is.app (by simp only [aM,aS,aE,aN,Jx,Enc.b]; omega)) fun x8 hx8=>?_;subst hx8;refine Is.bind (Is.app (by simp only [aM,aS,aE,aN,Jx,Enc.b]; omega)) fun x9 hx9=>?_;have hsz:∀ s∈x9,s.size<=1048576:=by
  subst hx9;intro s hs;simp only [aW,bG,List.not_mem_nil,or_false,bT] at hs;rcases hs with ((rfl|hs)|⟨x,hx,rfl⟩)|⟨x,hx,rfl⟩
  ·exact h.nm
  ·exact h.secn s hs
  ·exact h.eln x hx
  ·exact h.sgn x hx
 have hlen:x9.length<=4194304:=by
  subst hx9;simp only [aM,aS,aE,aN]; omega
 have hN:(∀ s∈x9,Jdm s)↔Jcl l:=by
  subst hx9;simp only [Jcl,aW,bG,List.not_mem_nil,or_false];exact ⟨fun q=>⟨q _ (.inl (.inl (.inl rfl))),fun s hs=>q s (.inl (.inl (.inr hs))),fun s hs=>q s (.inl (.inr hs)),fun s hs=>q s (.inr hs)⟩,
   fun ⟨q1,q2,q3,q4⟩ s hs=>hs.elim (fun hs=>hs.elim (fun hs=>hs.elim (fun e=>e▸q1) (q2 s)) (q3 s)) (q4 s)⟩
 clear hx9;refine Is.all (L:=x9) (fun _ s=>Jdm s) () oG (fun i x hx hi _=>?_) ?_ (fun hn=>?_)
 ·unfold Li;refine Is.inb hi (Is.at hx (Is.bind (Jea x (hsz x (aD hx))) fun r hr=>?_));exact Is.ifn hr (fun hn=>Is.val (.inr (.inl ⟨hc,fun e=>hn (hN.2 e x (aD hx)),rfl⟩))) (fun hy=>Is.val ⟨rfl,hy⟩)
 ·simp [Li]
 have hn:Jcl l:=hN.1 (Vo.1 hn);refine Is.bind (Ss _ oG) fun r hr=>?_;refine Is.bind (Is.or hr fun _=>Is.bind (Ss _ (by simp only [aS]; omega)) fun b hb=>Is.val hb) fun b hb=>?_;refine Is.bind (Is.or hb fun _=>Is.bind (Ss _ (by simp only [aS]; omega)) fun b hb=>Is.val hb) fun b2 hb2=>?_;refine Is.ite hb2 (fun hd=>Is.val (.inr (.inr (.inl ⟨hc,hn,fun q=>?_,rfl⟩)))) (fun hd=>Is.val (.inr (.inr (.inr ⟨hc,hn, ?_,rfl⟩))))
 ·rcases hd with (hd|hd)|hd
  ·exact hd q.1
  ·exact hd q.2.1
  ·exact hd q.2.2
 ·exact ⟨bH.1 fun q=>hd (.inl (.inl q)),bH.1 fun q=>hd (.inl (.inr q)),bH.1 fun q=>hd (.inr q)⟩
theorem Jks(l:Ja)(x:Kg):Is (Iq l x) fun b=>b=true↔Jc7 l x:=by
 unfold Iq;simp only [aA,Fa,bC];refine Is.val ?_;unfold Jc7
 by_cases h2:x.Kind=2
 ·simp [h2,dN]; omega
 ·simp [h2,dN]; omega
theorem Jgv : ∀ L:List Uu,(Nz L).length=2 * L.length
 | []=>rfl
 | j::L=>by
  have:=Jgv L;simp only [Nz,dV,aM,aE,aN] at this ⊢;omega
theorem Jg8{l:Ja}(h:Sm l):Is (Zx l) fun e=>(¬ Jjx l/\e=1)\/(Jjx l/\¬ Jd6 l/\e=1)\/(Jjx l/\Jd6 l/\¬ (Nz l.Joints).Nodup/\e=8)\/(Jjx l/\Jd6 l/\(Nz l.Joints).Nodup/\e=0):=by
 unfold Zx;have h1:=h.sec; have h2:=h.el; have h3:=h.jo;refine Is.all (L:=l.Elements) (fun _ x=>Jc7 l x) () oG (fun i x hx hi _=>?_) ?_ (fun ha=>?_)
 ·unfold Ea;refine Is.inb hi (Is.at hx (Is.bind (Jks l x) fun r hr=>?_));exact Is.ifn hr (fun hn=>Is.val (.inl ⟨fun q=>hn (q.1 x (aD hx)),rfl⟩)) (fun hy=>Is.val ⟨rfl,hy⟩)
 ·simp [Ea]
 refine Is.all (L:=l.Sections) (fun i _=>∃ x∈l.Elements,x.Section=(i:Nat)) () oG (fun i x hx hi _=>?_) ?_ (fun hn=>?_)
 ·unfold Ed;refine Is.inb hi (Is.to (Jiz h.el _) ?_);exact Is.ite (Qb.trans (Jrc hi)) (fun hb=>Is.val (.inl ⟨fun q=>hb (q.2 i hi),rfl⟩)) (fun hb=>Is.val ⟨rfl,bH.1 hb⟩)
 ·simp [Ed]
 have hE:Jjx l:=⟨Vo.1 ha,fun s hs=>hn s l.Sections[s] (aB hs)⟩
 refine Is.fold (L:=l.Joints) (mk:=fun i m=>(i,m)) (fun i m=>m=Nz (l.Joints.take i)/\∀ j x,j<i->l.Joints[j]? = some x->exS l x.A=true/\exS l x.B=true/\x.A≠x.B) [] oG ⟨rfl,fun j x hj=>by omega⟩ (fun i x m hx hi hI=>?_) (fun m hI=>?_)
 ·unfold Dv;refine Is.inb hi (Is.at hx ?_);simp only [Jdl,aA,Fa,bC];refine Is.ite (p:=¬ (exS l x.A=true/\exS l x.B=true/\x.A≠x.B)) (by simp only [cM,bK,Mo]; cases exS l x.A <;> cases exS l x.B <;> simp) (fun hb=>Is.val (.inr (.inl ⟨hE,fun q=>hb (q x (aD hx)),rfl⟩))) (fun hb=>?_);have hlen:m.length<=2 * i:=by
   rw [hI.1,Jgv,aU]; omega
  refine Is.bind (Is.app (by simp only [aE,aN,Jx,Enc.b]; omega)) fun M hM=>?_;subst hM;refine Is.val ⟨_,rfl,by rw [hI.1,Lb hx,Jsq],fun j y hj hy=>?_⟩
  by_cases e:j=i
  ·subst e; rw [hx] at hy; cases hy; exact bH.1 hb
  ·exact hI.2 j y oG hy
 unfold Dv;refine Is.oub (Is.val ?_);obtain ⟨hm,hJ⟩:=hI;rw [bA] at hm;have hJ:Jd6 l:=Vo.1 fun i x hx=>hJ i x (Qo hx) hx;subst hm;have hlen:(Nz l.Joints).length<=4194304:=by
  rw [Jgv]; omega
 refine Is.bind (Jew _ hlen) fun r hr=>?_;exact Is.ite hr (fun hd=>Is.val (.inr (.inr (.inl ⟨hE,hJ,hd,rfl⟩)))) (fun hd=>Is.val (.inr (.inr (.inr ⟨hE,hJ,bH.1 hd,rfl⟩))))
theorem Jii{l:Ja}(h:Sm l)(hJ:Jd6 l)(hn:(Nz l.Joints).Nodup):Is (Ca l) fun e=>
  (¬ Jtr l/\e=1)\/(Jtr l/\¬ (l.Signals.map (·.At)).Nodup/\e=8)\/(Jtr l/\(l.Signals.map (·.At)).Nodup/\¬ Jsy l/\e=14)\/(Jtr l/\(l.Signals.map (·.At)).Nodup/\Jsy l/\e=0):=by
 unfold Ca;have g3:=h.sg; have g4:=h.jo;refine Is.fold (L:=l.Signals) (mk:=fun i m=>(i,m)) (fun i m=>m=(l.Signals.take i).map (·.At)/\∀ j s,j<i->l.Signals[j]? = some s->exS l s.At=true/\0<=s.Overlap/\s.Overlap<=1000000) [] oG ⟨rfl,fun j x hj=>by omega⟩ (fun i x m hx hi hI=>?_) (fun m hI=>?_)
 ·unfold Fv;refine Is.inb hi (Is.at hx ?_);simp only [Jdl,aA];refine Is.ite (p:=¬ (exS l x.At=true/\0<=x.Overlap/\x.Overlap<=1000000)) (by cases exS l x.At <;> simp <;> omega) (fun hb=>Is.val (.inl ⟨fun q=>hb (q x (aD hx)),rfl⟩)) (fun hb=>?_);refine Is.bind (Is.app (by rw [hI.1]; simp only [aS,aU,aE,aN,Jx,Enc.b]; omega)) fun M hM=>?_;subst hM;refine Is.val ⟨_,rfl,by rw [hI.1,Lb hx]; simp,fun j y hj hy=>?_⟩
  by_cases e:j=i
  ·subst e; rw [hx] at hy; cases hy; exact bH.1 hb
  ·exact hI.2 j y oG hy
 unfold Fv;refine Is.oub (Is.val ?_);obtain ⟨hm,h1⟩:=hI;rw [bA] at hm;have h1:Jtr l:=Vo.1 fun i x hx=>h1 i x (Qo hx) hx;subst hm;refine Is.bind (Jew _ (by simp only [aS]; omega)) fun r hr=>?_;refine Is.ite hr (fun hd=>Is.val (.inr (.inl ⟨h1,hd,rfl⟩))) (fun hd=>?_);have h2:=bH.1 hd;have hJO:Jp7 l:=⟨fun j hj=>⟨(hJ j hj).1,(hJ j hj).2.1⟩,hn⟩
 refine Is.all (L:=l.Signals.map (·.At)) (fun _ e=>(Kq l e).2=true/\Jvg l (Kq l e).1.El≠Jvg l e.El) () (by simp only [aS]; omega) (fun i e hx hi _=>?_) ?_ (fun h3=>?_)
 ·unfold Fo;refine Is.inb hi (Is.at hx (Is.to (Vb g4 e) ?_));obtain ⟨s,hs,rfl⟩:=bT.1 (aD hx);refine Is.bind (Is.or (p:=¬ (Kq l s.At).2=true) (q:=Jvg l (Kq l s.At).1.El=Jvg l s.At.El) (Jll Iff.rfl) fun hp=>?_) fun b hb=>?_
  ·have hc2:=bH.1 hp;have hf:exS l (Kq l s.At).1=true:=Jtc hJO (e:=s.At) (by rw [<- hc2]);have e1:=Jp6 hf;have e2:=Jp6 (h1 s hs).1;obtain ⟨x,hx,hx2⟩:=Wu e1;obtain ⟨y,hy,hy2⟩:=Wu e2;rw [hx,hy];refine Is.val ?_;simp [Jvg,e1,e2,hx2,hy2]
  ·refine Is.ite hb (fun hc=>Is.val (.inr (.inr (.inl ⟨h1,h2,fun q=>?_,rfl⟩)))) (fun hc=>Is.val ⟨rfl,bH.1 fun q=>hc (.inl q),fun q=>hc (.inr q)⟩);rcases hc with hc|hc
   ·exact hc (q s hs).1
   ·exact (q s hs).2 hc
 ·simp [Fo]
 ·refine Is.val (.inr (.inr (.inr ⟨h1,h2,fun s hs=>?_,rfl⟩)));exact Vo.1 h3 s.At (bT.2 ⟨s,hs,rfl⟩)
theorem Jiq{l:Ja}(h:Sm l):Is (Ce l) fun e=>(¬ Jvm l/\e=1)\/(Jvm l/\¬ (l.Balises.map (·.Id)).Nodup/\e=8)\/(Jvm l/\(l.Balises.map (·.Id)).Nodup/\e=0):=by
 unfold Ce;have g3:=h.ba;refine Is.fold (L:=l.Balises) (mk:=fun i m=>(i,m)) (fun i m=>m=(l.Balises.take i).map (·.Id)/\∀ j b,j<i->l.Balises[j]? = some b->1<=b.Id/\b.Id<=1073741824/\Vi l b.El=true/\0<=b.Offset/\b.Offset<=Jv0 l b.El) [] oG ⟨rfl,fun j x hj=>by omega⟩ (fun i x m hx hi hI=>?_) (fun m hI=>?_)
 ·unfold Ft;refine Is.inb hi (Is.at hx ?_);simp only [aA,Fa,bC];refine Is.bind (Is.or (p:=¬ (1<=x.Id/\x.Id<=1073741824/\Vi l x.El=true/\0<=x.Offset)) (q:=¬ x.Offset<=Jv0 l x.El) (by simp [Vi]; omega) fun hp=>?_) fun b hb=>?_
  ·have hp:=bH.1 hp;obtain ⟨y,h2,h3⟩:=Wu hp.2.2.1;rw [h2];exact Is.val (by simp [Jv0,h3])
  ·refine Is.ite hb (fun hc=>Is.val (.inl ⟨fun q=>?_,rfl⟩)) (fun hc=>?_)
   ·have q1:=q x (aD hx);rcases hc with hc|hc
    ·exact hc ⟨q1.1,q1.2.1,q1.2.2.1,q1.2.2.2.1⟩
    ·exact hc q1.2.2.2.2
   ·refine Is.bind (Is.app (by rw [hI.1]; simp only [aS,aU,aE,aN,Jx,Enc.b]; omega)) fun M hM=>?_;subst hM;refine Is.val ⟨_,rfl,by rw [hI.1,Lb hx]; simp,fun j y hj hy=>?_⟩
    by_cases e:j=i
    ·subst e; rw [hx] at hy; cases hy;have q1:1<=x.Id/\x.Id<=1073741824/\Vi l x.El=true/\0<=x.Offset:=bH.1 fun q=>hc (.inl q);exact ⟨q1.1,q1.2.1,q1.2.2.1,q1.2.2.2,bH.1 fun q=>hc (.inr q)⟩
    ·exact hI.2 j y oG hy
 unfold Ft;refine Is.oub (Is.val ?_);obtain ⟨hm,h1⟩:=hI;rw [bA] at hm;have h1:Jvm l:=Vo.1 fun i x hx=>h1 i x (Qo hx) hx;subst hm;refine Is.bind (Jhx _ (by simp only [aS]; omega)) fun r hr=>?_;exact Is.ite hr (fun hd=>Is.val (.inr (.inl ⟨h1,hd,rfl⟩))) (fun hd=>Is.val (.inr (.inr ⟨h1,bH.1 hd,rfl⟩)))
theorem Jk8{l:Ja}(h:Sm l):Is (Fb l) fun e=>e=chk l:=by
 unfold Fb;refine Is.bind (Jk7 h) fun e he=>?_;rcases he with ⟨hc,rfl⟩|⟨hc,h1,rfl⟩|⟨hc,h1,h2,rfl⟩|⟨hc,h1,h2,rfl⟩
 ·exact Is.val (by simp [chk,hc])
 ·exact Is.val (by simp [chk,hc,h1])
 ·exact Is.val (by simp [chk,hc,h1,h2])
 show Is ((Zx l).bind _) _;refine Is.bind (Jg8 h) fun e he=>?_;rcases he with ⟨h3,rfl⟩|⟨h3,h4,rfl⟩|⟨h3,h4,h5,rfl⟩|⟨h3,h4,h5,rfl⟩
 ·exact Is.val (by simp [chk,hc,h1,h2,h3])
 ·exact Is.val (by simp [chk,hc,h1,h2,h3,h4])
 ·exact Is.val (by simp [chk,hc,h1,h2,h3,h4,h5])
 show Is ((Ca l).bind _) _;refine Is.bind (Jii h h4 h5) fun e he=>?_;rcases he with ⟨h6,rfl⟩|⟨h6,h7,rfl⟩|⟨h6,h7,h8,rfl⟩|⟨h6,h7,h8,rfl⟩
 ·exact Is.val (by simp [chk,hc,h1,h2,h3,h4,h5,h6])
 ·exact Is.val (by simp [chk,hc,h1,h2,h3,h4,h5,h6,h7])
 ·exact Is.val (by simp [chk,hc,h1,h2,h3,h4,h5,h6,h7,h8])
 show Is ((Ce l).bind _) _;refine Is.bind (Jiq h) fun e he=>?_;rcases he with ⟨h9,rfl⟩|⟨h9,h10,rfl⟩|⟨h9,h10,rfl⟩
 ·exact Is.val (by simp [chk,hc,h1,h2,h3,h4,h5,h6,h7,h8,h9])
 ·exact Is.val (by simp [chk,hc,h1,h2,h3,h4,h5,h6,h7,h8,h9,h10])
 ·exact Is.val (by simp [chk,hc,h1,h2,h3,h4,h5,h6,h7,h8,h9,h10])
structure OkL (l:Ja):Prop where
 counts:Rd l
 names:Jcl l
 dist:Js9 l
 elem:Jjx l
 joint:Jd6 l
 ends:(Nz l.Joints).Nodup
 sig:Jtr l
 sigd:(l.Signals.map (·.At)).Nodup
 safe:Jsy l
 bal:Jvm l
 bald:(l.Balises.map (·.Id)).Nodup
theorem Jym(l:Ja):chk l=0↔OkL l:=by
 constructor
 ·intro h;unfold chk at h
  by_cases h1:Rd l
  ·by_cases h2:Jcl l
   ·by_cases h3:Js9 l
    ·by_cases h4:Jjx l
     ·by_cases h5:Jd6 l
      ·by_cases h6:(Nz l.Joints).Nodup
       ·by_cases h7:Jtr l
        ·by_cases h8:(l.Signals.map (·.At)).Nodup
         ·by_cases h9:Jsy l
          ·by_cases h10:Jvm l
           ·by_cases h11:(l.Balises.map (·.Id)).Nodup
            ·exact ⟨h1,h2,h3,h4,h5,h6,h7,h8,h9,h10,h11⟩
            ·simp [h1,h2,h3,h4,h5,h6,h7,h8,h9,h10,h11] at h
           ·simp [h1,h2,h3,h4,h5,h6,h7,h8,h9,h10] at h
          ·simp [h1,h2,h3,h4,h5,h6,h7,h8,h9] at h
         ·simp [h1,h2,h3,h4,h5,h6,h7,h8] at h
        ·simp [h1,h2,h3,h4,h5,h6,h7] at h
       ·simp [h1,h2,h3,h4,h5,h6] at h
      ·simp [h1,h2,h3,h4,h5] at h
     ·simp [h1,h2,h3,h4] at h
    ·simp [h1,h2,h3] at h
   ·simp [h1,h2] at h
  ·simp [h1] at h
 ·rintro ⟨h1,h2,h3,h4,h5,h6,h7,h8,h9,h10,h11⟩;simp [chk,h1,h2,h3,h4,h5,h6,h7,h8,h9,h10,h11]
theorem Jmi{l:Ja}(h:Sm l):Fb l=some (chk l):=by
 obtain ⟨r,h1,rfl⟩:=Jk8 h; exact h1
def Kcj(l:Ja)(way:List Jb):Int:=match way.getLast? with|some s=>lenOf l s|none=>0
def strS(l:Ja)(way:List Jb)(h:Int):Int:=Bt l way.dropLast+h
def Jyn(l:Ja)(way:List Jb):Int:=match way with|s::_=>lenOf l s|[]=>0
section
variable {l:Ja} {len:Int}
end
structure MvR where
 way:List Jb
 head:Int
 left:Int
 ended:Bool
structure OkB (l:Ja) (b:Qz):Prop where
 valid:Sx l b.Steps
 len:1<=b.Length/\b.Length<=1000000
 head:1<=b.Head/\b.Head<=Kcj l b.Steps
 str:b.Length<=strS l b.Steps b.Head
 fst:1<b.Steps.length->strS l b.Steps b.Head - Jyn l b.Steps<b.Length
theorem OkL.lens{l:Ja}(hl:OkL l){s:Jb}(h:Vi l s.El=true):500<=lenOf l s/\lenOf l s<=1000000:=by
 obtain ⟨x,h1,h2⟩:=Wu h;have:=hl.elem.1 x (aD h2);simp only [lenOf,h,h2,cond_true,aZ,dZ];exact this.2.1
structure Bd (b:Qz):Prop where
 head:0<=b.Head/\b.Head<=1000000
 len:1<=b.Length/\b.Length<=1000000
def Jyf(t:Jr):Prop :=
 (1<=t.Id/\t.Id<=99)/\(1<=t.Length/\t.Length<=50000)/\(1<=t.Speed/\t.Speed<=10000)/\(1<=t.Accel/\t.Accel<=200)/\(1<=t.Service/\t.Service<=200)/\(t.Service<=t.Emergency/\t.Emergency<=200) /\
  (0<=t.Delay/\t.Delay<=5)/\(0<=t.Const/\t.Const<=500)/\(0<=t.Rate/\t.Rate<=100)
open Classical in
noncomputable def Jhj(t:Jr):Int:=if ¬ Jdm t.Name then 3 else if ¬ Jyf t then 1 else 0
theorem Jz2{α:Type}{b:Bool}{x y:α}:(bif b then some x else some y)=some (bif b then x else y):=by cases b <;> rfl
theorem Jn2{t:Jr}(h:t.Name.size<=1048576):Ew t=some (Jhj t):=by
 suffices Is (Ew t) fun r=>r=Jhj t by obtain ⟨r,h,rfl⟩:=this; exact h
 unfold Ew;refine (Jea _ h).bind fun r hr=>Is.ifn hr (fun hn=>Is.val (by unfold Jhj; rw [if_pos hn])) fun hn=>?_;simp only [Zb,aA,Jz2,bC];refine ⟨_,rfl, ?_⟩
 by_cases c1:(1<=t.Id/\t.Id<=99)/\(1<=t.Length/\t.Length<=50000)/\(1<=t.Speed/\t.Speed<=10000)/\(1<=t.Accel/\t.Accel<=200)/\(1<=t.Service/\t.Service<=200)
 ·obtain ⟨⟨a1,a2⟩,⟨a3,a4⟩,⟨a5,a6⟩,⟨a7,a8⟩,a9,a10⟩:=c1
  by_cases c2:(t.Service<=t.Emergency/\t.Emergency<=200)/\(0<=t.Delay/\t.Delay<=5)/\(0<=t.Const/\t.Const<=500)/\(0<=t.Rate/\t.Rate<=100)
  ·have hR:Jyf t:=⟨⟨a1,a2⟩,⟨a3,a4⟩,⟨a5,a6⟩,⟨a7,a8⟩,⟨a9,a10⟩,c2⟩
   obtain ⟨⟨b1,b2⟩,⟨b3,b4⟩,⟨b5,b6⟩,b7,b8⟩:=c2;unfold Jhj;rw [if_neg (fun q=>q hn),if_neg (fun q=>q hR)];simp [a1,a2,a3,a4,a5,a6,a7,a8,a9,a10,b1,b2,b3,b4,b5,b6,b7,b8]
  ·have hR:¬ Jyf t:=fun q=>c2 q.2.2.2.2.2;unfold Jhj;rw [if_neg (fun q=>q hn),if_pos hR];simp only [a1,a2,a3,a4,a5,a6,a7,a8,a9,a10,decide_true,Bool.and_self,aY,Bool.or_self,cond_false];rw [cond_eq_ite,if_pos];simp only [cM,bK,Bool.and_eq_false_iff,decide_eq_false_iff_not];omega
 ·have hR:¬ Jyf t:=fun q=>c1 ⟨q.1,q.2.1,q.2.2.1,q.2.2.2.1,q.2.2.2.2.1⟩;unfold Jhj;rw [if_neg (fun q=>q hn),if_pos hR];rw [cond_eq_ite,if_pos];simp only [cM,bK,Bool.and_eq_false_iff,decide_eq_false_iff_not];omega
theorem Is.wf{S ρ:Type}{step:S->Option (S⊕ρ)}(I:S->Prop)(μ:S->Nat){θ:ρ->Prop}(hs:∀ s,I s->Is (step s) fun o=>match o with|.inl t=>I t/\μ t<μ s|.inr r=>θ r) :
  ∀ (n:Nat) (s:S),μ s<=n->I s->Is (Jq step s) θ:=by
 intro n;induction n with
 | zero=>
  intro s hn hI;obtain ⟨o,h1,h2⟩:=hs s hI;cases o with
  | inl t=>exact absurd h2.2 oG
  | inr r=>exact ⟨r,Qj h1,h2⟩
 | succ n ih=>
  intro s hn hI;obtain ⟨o,h1,h2⟩:=hs s hI;cases o with
  | inl t=>
   obtain ⟨r,h3,h4⟩:=ih t oG h2.1;exact ⟨r,by rw [Dn h1]; exact h3,h4⟩
  | inr r=>exact ⟨r,Qj h1,h2⟩
theorem Jl7{x:Option Bool}:(x.bind fun r=>some r)=x:=by cases x <;> rfl
theorem Jef{α:Type}{eqf:α->α->Bool}(heq:∀ x y,eqf x y=true↔x=y){L M:List α}(h:L.length<=1048576){step:Int->Option (Int⊕(Unit⊕Bool))}(hs:∀ x3,step x3=bif decide (x3<((L.length:Nat):Int)) then ((ixO L x3).bind fun x6=>(ixO M x3).bind fun x7=>bif (!(eqf x6 x7)) then some (.inr (.inr false)) else some (.inl (w64 (x3+1)))) else some (.inr (.inl ()))) :
  Is (bif (!(decide (((L.length:Nat):Int)=((M.length:Nat):Int)))) then some false else onInl (α:=Unit) (β:=Bool) (Jq step 0) fun _=>some true) fun b=>b=true↔L=M:=by
 refine Is.ifn (p:=L.length=M.length) (by rw [decide_eq_true_iff]; omega) (fun hl=>Is.val (iff_of_false cF fun e=>hl (congrArg _ e))) (fun hl=>?_);refine Is.all (L:=L) (fun i x=>M[i]? = some x) () oG (fun i x hx hi _=>?_) (by rw [hs]; simp) (fun hn=>Is.val (iff_of_true rfl ?_))
 ·rw [hs];have hg:M[i]? = some M[i]:=aB oG;refine Is.inb hi (Is.at hx (Is.at hg ?_));refine Is.ifn (heq _ _) (fun hb=>Is.val (iff_of_false cF fun e=>?_)) (fun hb=>Is.val ⟨rfl,by rw [hg,hb]⟩);subst e; rw [hg] at hx; cases hx; exact hb rfl
 ·apply dD;intro i;cases hx:L[i]? with
  | some x=>exact (hn i x hx).symm
  | none=>exact (bO (by have:=List.getElem?_eq_none_iff.1 hx; omega)).symm
def ltL(x y:Jc):Prop:=x.At<y.At\/(x.At=y.At/\x.Id<y.Id)
instance (x y:Jc):Decidable (ltL x y):=by unfold ltL; infer_instance
section
variable {α:Type}
end
theorem Kcn{l:Ja}(hO:OkL l){way:List Jb}(hv:Sx l way){i:Nat}{s:Jb}(hs:way[i]? = some s) :
  ∃ e,ixO l.Elements s.El=some e/\l.Elements[s.El.toNat]? = some e/\Vi l s.El=true/\lenOf l s=e.Length/\Jc7 l e/\(Jbk e.Kind s.In s.Out).2=true:=by
 obtain ⟨t,ht,hp,_⟩:=hv.2.2 i (Qo hs);rw [hs] at ht; cases ht;unfold Jga at hp;cases hh:Vi l s.El with
 | false=>rw [hh] at hp; cases hp
 | true=>
  obtain ⟨x,h1,h2⟩:=Wu hh;rw [hh,h2] at hp;exact ⟨x,h1,h2,rfl,by simp [lenOf,hh,h2],hO.elem.1 x (aD h2),hp⟩
theorem Kgf(x y:Jh):Pp x y=true↔x=y:=by cases x; cases y; simp [Pp]
theorem Jof{p q:List Jh}(h:p.length<=1048576):Is (Ts p q) fun b=>b=true↔p=q:=Jef Kgf h fun _=>rfl
def fwdE(e:Kg)(s:Jb):Prop:=s.In=0\/(s.In=2/\e.Kind=3)
instance (e:Kg)(s:Jb):Decidable (fwdE e s):=by unfold fwdE; exact inferInstance
section
variable {c:Int} {p q:List Jh}
variable {l:Ja} {r:Jy}
theorem Jmb(hO:OkL l)(s:Jb):0<=lenOf l s:=by
 by_cases h:Vi l s.El=true
 ·have:=hO.lens h; omega
 ·unfold lenOf;rw [eA] at h;rw [h]; exact Int.le_refl _
end
theorem Jcy{α:Type}{b:Bool}{x y:α}:(bif b then some x else some y)=some (bif b then x else y):=by cases b <;> rfl
def Jnh(l:Ja)(i:Int):Int:=bif Vi l i then ((l.Elements[i.toNat]?).map (·.Section)).getD (-1) else -1
theorem Eo(l:Ja)(i:Int):Vv l i=some (Jnh l i):=by
 unfold Vv Jnh;simp only [Jcy,aA,bC];have e:(decide (i<0)||decide (((l.Elements.length:Nat):Int)<=i)) = !Vi l i:=by
  unfold Vi; rw [dR]; simp
 rw [e];cases h:Vi l i with
 | false=>rfl
 | true=>
  obtain ⟨x,h2,h3⟩:=Wu h;simp [h2,h3]
def Kar(l:Ja)(r:Ji):Kj×Bool :=
 bif decide (r.Exit<0)||decide (((l.Signals.length:Nat):Int)<=r.Exit) then (Kj.mk ByteArray.empty (Je.mk 0 0) 0,false)
 else ((l.Signals[r.Exit.toNat]?).getD (Kj.mk ByteArray.empty (Je.mk 0 0) 0),true)
theorem Joh(l:Ja)(r:Ji):Hp l r=some (Kar l r):=by
 unfold Hp Kar;simp only [Jcy,aA,bC];cases h:(decide (r.Exit<0)||decide (((l.Signals.length:Nat):Int)<=r.Exit)) with
 | true=>rfl
 | false=>
  simp only [dI,decide_eq_false_iff_not] at h;obtain ⟨x,h2,h3⟩:=Is.ix (L:=l.Signals) (i:=r.Exit) oG oG;simp [h2,h3]
def Jyw(o:List Jb)(e:Int):Bool:=decide (∃ x∈o,x.El=e)
def inS(L:List Int)(e:Int):Bool:=decide (e∈L)
theorem Juy(l:Ja)(r:Ji)(o:List Jb)(e:Int)(h:o.length<=1048576)(hr:r.Sections.length<=1048576) :
  Cd l r o e=some (Jyw o e||inS r.Sections (Jnh l e)):=by
 have:Is (Cd l r o e) fun b=>b=(Jyw o e||inS r.Sections (Jnh l e)):=by
  unfold Cd;refine Is.all (L:=o) (fun _ x=>¬ x.El=e) () oG (fun i x hx hi hI=>?_) ?_ (fun hn=>?_)
  ·unfold Fm;refine Is.inb hi (Is.at hx ?_);refine Is.ite Qb (fun hc=>Is.val ?_) (fun hc=>Is.val ⟨rfl,hc⟩);show true=_;rw [show Jyw o e=true from decide_eq_true ⟨x,aD hx,hc⟩,Bool.true_or]
  ·simp [Fm]
  have hc:Jyw o e=false:=decide_eq_false (by
   rintro ⟨x,hx,hc⟩;obtain ⟨i,hi⟩:=aX hx;exact hn i x hi hc)
  rw [hc,Bool.false_or];refine Is.all (L:=r.Sections) (fun _ x=>¬ x=Jnh l e) () oG (fun i x hx hi hI=>?_) ?_ (fun hn=>Is.val ?_)
  ·unfold Fu;refine Is.inb hi (Is.at hx ?_);rw [Eo,aA];refine Is.ite Qb (fun hc=>Is.val ?_) (fun hc=>Is.val ⟨rfl,hc⟩);exact (decide_eq_true (hc▸aD hx:Jnh l e∈r.Sections)).symm
  ·simp [Fu]
  ·refine Eq.symm (decide_eq_false ?_);intro hx;obtain ⟨i,hi⟩:=aX hx;exact hn i _ hi rfl
 obtain ⟨b,h1,h2⟩:=this;rw [h1,h2]
def ovR(r:Ji)(o:List Jb)(p:List Jf)(s:List Int):Ji :=
 Ji.mk r.Name r.Entry r.Exit r.Path r.Points r.Sections r.Approach r.Length o p s r.Flank r.Guards r.Gaps
structure FewR (r:Ji):Prop where
 pa:r.Path.length<=60
 ov:r.Over.length<=60
 se:r.Sections.length<=60
 os:r.OverSections.length<=60
 po:r.Points.length<=60
 op:r.OverPoints.length<=60
 fl:r.Flank.length<=60
 gu:r.Guards.length<=60
 ga:r.Gaps.length<=60
theorem Jzh(l:Ja):Jkt l []=[]:=by
 have h:=Jmv l [];exact aQ (by simpa using h)
def zAt(l:Ja)(way:List Jb)(i:Nat):Int:=Jnh l (((way[i]?).map (·.El)).getD 0)
theorem Jw3{l:Ja}{way:List Jb}{i:Nat}{s:Jb}(h:way[i]? = some s):zAt l way i=Jnh l s.El:=by
 unfold zAt; rw [h]; rfl
def Jmz(l:Ja)(way:List Jb):Nat->Nat
 | 0=>1
 | n+1=>if zAt l way (n+1)=zAt l way n then Jmz l way n else Jmz l way n+1
theorem Jo0(l:Ja)(way:List Jb)(n:Nat):Jmz l way (n+1)=if zAt l way (n+1)=zAt l way n then Jmz l way n else Jmz l way n+1:=rfl
theorem Jwi(l:Ja)(way:List Jb):∀ n,Jmz l way n<=n+1
 | 0=>aI _
 | n+1=>by
  have:=Jwi l way n;unfold Jmz;split <;> omega
def Kbv(l:Ja)(e:Je)(way:List Jb):Prop :=
 (∃ s,way[0]? = some s/\s.El=e.El/\s.In=e.Side)/\way.length<=12/\Sx l way/\Jmz l way (way.length - 1)=(Jb1 l way).length
theorem Jvc(l:Ja)(way:List Jb)(h0:0<way.length)(h:way.length<=1000):Is (Jq (Gc l way) (1,1)) fun o=>o=.inl ((Jmz l way (way.length - 1):Nat):Int):=by
 refine Is.loop (mk:=fun i (s:Int)=>(s,((i+1:Nat):Int))) (way.length - 1) (fun i s=>s=((Jmz l way i:Nat):Int)) (1:Int) rfl (fun i s hi hI=>?_) (fun s hI=>?_)
 ·have h1:i+1<way.length:=by omega
  have hc:=Jwi l way i;simp only [Gc];rw [decide_eq_true oG,cond_true];refine Is.onInl (θ:=fun o=>o=.inl ((Jmz l way (i+1):Nat):Int)) ?_ ?_ (fun b hb=>by cases hb)
  ·refine Is.at (aB h1) ?_;rw [Eo,aA];have hw:w64 (((i+1:Nat):Int) - 1)=(i:Int):=by rw [Hz oG oG]; omega
   rw [hw];refine Is.at (aB (show i<way.length by omega)) ?_;rw [Eo,aA];have e1:=Jw3 (l:=l) (aB h1);have e2:=Jw3 (l:=l) (aB (show i<way.length by omega));rw [<- e1,<- e2];subst hI;refine Is.ifn Qb (fun hn=>Is.val ?_) (fun hn=>Is.val ?_)
   ·rw [Jo0,if_neg hn,Fz oG]
   ·rw [Jo0,if_pos hn]
  ·rintro v hv;cases hv;refine Is.val ⟨_, ?_,rfl⟩;have hw:w64 (((i+1:Nat):Int)+1)=((i+1+1:Nat):Int):=by rw [Hz oG oG]; omega
   rw [hw]
 ·simp only [Gc];rw [decide_eq_false oG,cond_false];exact Is.val (by rw [hI])
theorem Jz7(l:Ja)(hj:l.Joints.length<=1048576)(e:Je)(way:List Jb)(h:way.length<=1000):Is (Hv l e way) fun b=>b=true↔Kbv l e way:=by
 unfold Hv;refine Is.bind (Is.or Qb fun _=>Is.val Qb) fun b1 hb1=>?_;refine Is.bind (φ:=fun b=>b=true↔(¬ (0<way.length/\way.length<=12))\/∃ s,way[0]? = some s/\s.El≠e.El) (Is.ite hb1 (fun hp=>Is.val ?_) fun hp=>?_) fun b2 hb2=>?_
 ·exact ⟨fun _=>.inl oG,fun _=>rfl⟩
 ·have h0:0<way.length:=by omega
  refine Is.at (i:=0) (aB h0) (Is.val ?_);rw [bK,decide_eq_false_iff_not];constructor
  ·exact fun hn=>.inr ⟨_,aB h0,hn⟩
  ·rintro (hn|⟨s,hs,hn⟩)
   ·omega
   ·rw [aB h0] at hs; cases hs; exact hn
 refine Is.bind (φ:=fun b=>b=true↔((¬ (0<way.length/\way.length<=12))\/∃ s,way[0]? = some s/\s.El≠e.El)\/∃ s,way[0]? = some s/\s.In≠e.Side) (Is.ite hb2 (fun hp=>Is.val ?_) fun hp=>?_) fun b4 hb4=>?_
 ·exact ⟨fun _=>.inl hp,fun _=>rfl⟩
 ·have h0:0<way.length:=by
   by_cases hh:0<way.length
   ·exact hh
   ·exact absurd (.inl fun q=>hh q.1) hp
  refine Is.at (i:=0) (aB h0) (Is.val ?_);rw [bK,decide_eq_false_iff_not];constructor
  ·exact fun hn=>.inr ⟨_,aB h0,hn⟩
  ·rintro (hn|⟨s,hs,hn⟩)
   ·exact absurd hn hp
   ·rw [aB h0] at hs; cases hs; exact hn
 refine Is.bind (Is.or (q:=¬ Sx l way) hb4 fun _=>?_) fun b6 hb6=>?_
 ·exact (Jeh l way hj oG).bind fun r hr=>Is.val (Jll hr)
 refine Is.ite hb6 (fun hp=>Is.val ?_) fun hp=>?_
 ·simp only [aP,false_iff];rintro ⟨⟨s,hs,h1,h2⟩,h3,h4,h5⟩;have h0:=Qo hs;rcases hp with ((hp|⟨t,ht,hp⟩)|⟨t,ht,hp⟩)|hp
  ·omega
  ·rw [hs] at ht; cases ht; exact hp h1
  ·rw [hs] at ht; cases ht; exact hp h2
  ·exact hp h4
 ·have h0:0<way.length/\way.length<=12:=by
   by_cases hh:0<way.length/\way.length<=12
   ·exact hh
   ·exact absurd (.inl (.inl (.inl hh))) hp
  refine Is.onInl (Jvc l way h0.1 h) (fun v hv=>?_) (fun b hb=>by cases hb);cases hv;rw [Pb l way oG,aA];refine Is.val ?_;rw [decide_eq_true_iff];have hg:=aB h0.1;constructor
  ·intro hc;refine ⟨⟨_,hg, ?_, ?_⟩,h0.2, ?_,by omega⟩
   ·by_cases hh:(way[0]'h0.1).El=e.El
    ·exact hh
    ·exact absurd (.inl (.inl (.inr ⟨_,hg,hh⟩))) hp
   ·by_cases hh:(way[0]'h0.1).In=e.Side
    ·exact hh
    ·exact absurd (.inl (.inr ⟨_,hg,hh⟩)) hp
   ·by_cases hh:Sx l way
    ·exact hh
    ·exact absurd (.inr hh) hp
  ·rintro ⟨_,_,_,hc⟩;omega
theorem Joa{l:Ja}(h:l.Signals.length<=1048576)(e:Je):Vs l e=some (Jas l.Signals e):=by
 have:Is (Vs l e) fun r=>r=Jas l.Signals e:=by
  unfold Vs;refine Is.all (L:=l.Signals) (fun _ x=>x.At≠e) () oG (fun i x hx hi hI=>?_) ?_ (fun hn=>?_)
  ·unfold Zv;refine Is.inb hi (Is.at hx (Is.ite (Mo _ _) (fun hc=>Is.val ?_) fun hc=>Is.val ⟨rfl,hc⟩));exact (Jpv hx hc hI).symm
  ·simp [Zv]
  ·refine Is.val (Jpr fun s hs=>?_).symm;obtain ⟨i,hi⟩:=aX hs;exact hn i s hi
 obtain ⟨r,h1,rfl⟩:=this;exact h1
def Jt2(l:Ja)(b:Jb):Bool:=decide (0<=Jas l.Signals ⟨b.El,b.Out⟩) || !(Kq l ⟨b.El,b.Out⟩).2
theorem Jw0{l:Ja}(h:Sm l)(b:Jb):Ch l b=some (Jas l.Signals ⟨b.El,b.Out⟩,Jt2 l b):=by
 unfold Ch Jt2;rw [Joa h.sg,aA,Rh h.jo,aA]
theorem Jn0(L:List Kj)(e:Je):Jas L e = -1\/(0<=Jas L e/\Jas L e<(L.length:Nat)):=by
 unfold Jas;cases h:L.findIdx? (fun s=>Kc s.At e) with
 | none=>exact .inl rfl
 | some i=>
  have:=(List.findIdx?_eq_some_iff_findIdx_eq.1 h).1;exact .inr ⟨by simp,by simp; omega⟩
open Classical in
noncomputable def Jue(l:Ja)(e:Je)(way:List Jb):Bool:=decide (Kbv l e way)
theorem Jne{l:Ja}{e:Je}{way:List Jb}:Jue l e way=true↔Kbv l e way:=by simp [Jue]
theorem Kci{l:Ja}(hj:l.Joints.length<=1048576)(e:Je){way:List Jb}(h:way.length<=1000):Hv l e way=some (Jue l e way):=by
 obtain ⟨b,h1,h2⟩:=Jz7 l hj e way h;rw [h1];congr 1;rw [dR,h2,Jne]
noncomputable def Jko(l:Ja)(e:Je)(way:List Jb)(rest:Je->List Jb->List (List Jb))(b:Jb):List (List Jb) :=
 bif Jue l e (way++[b]) then (bif Jt2 l b then [way++[b]] else rest (Kq l ⟨b.El,b.Out⟩).1 (way++[b])) else []
noncomputable def Xp(l:Ja)(e:Je):Nat->Je->List Jb->List (List Jb)
 | 0,_,_=>[]
 | n+1,a,way=>(Fx l a).flatMap (Jko l e way (Xp l e n))
theorem Jd8(l:Ja)(e:Je)(n:Nat)(a:Je)(way:List Jb):Xp l e (n+1) a way=(Fx l a).flatMap (Jko l e way (Xp l e n)):=rfl
theorem Jbj{l:Ja}{e:Je}:∀ {n:Nat} {a:Je} {way p:List Jb},p∈Xp l e n a way->Kbv l e p
 | 0,_,_,p,h=>by simp [Xp] at h
 | n+1,a,way,p,h=>by
  rw [Jd8,dO] at h;obtain ⟨b,_,h⟩:=h;unfold Jko at h;cases hf:Jue l e (way++[b]) with
  | false=>rw [hf] at h; cases h
  | true=>
   rw [hf,cond_true] at h;cases hz:Jt2 l b with
   | true=>rw [hz,cond_true,cG] at h; subst h; exact Jne.1 hf
   | false=>rw [hz,cond_false] at h; exact Jbj h
theorem Jbm{α β:Type}(f:α->List β)(k:Nat):∀ (L:List α),(∀ x∈L,(f x).length<=k)->(L.flatMap f).length<=L.length * k
 | [],_=>by simp
 | x::L,h=>by
  have h1:=h x sG;have h2:=Jbm f k L fun y hy=>h y (by simp [hy]);rw [dV,aM,aE,bQ]; omega
theorem Jpj(l:Ja)(e:Je)(way:List Jb)(n:Nat)(rest:Je->List Jb->List (List Jb))(h:∀ a w,(rest a w).length<=2 ^ n)(b:Jb):(Jko l e way rest b).length<=2 ^ n:=by
 have hp:1<=2 ^ n:=Nat.one_le_two_pow;unfold Jko;cases Jue l e (way++[b]) with
 | false=>simp
 | true=>
  cases Jt2 l b with
  | true=>simpa using hp
  | false=>exact h _ _
theorem Jg5(l:Ja)(e:Je):∀ (n:Nat) (a:Je) (way:List Jb),(Xp l e n a way).length<=2 ^ n
 | 0,_,_=>by simp [Xp]
 | n+1,a,way=>by
  have h1:=Jbm (Jko l e way (Xp l e n)) (2 ^ n) (Fx l a) fun b _=>Jpj l e way n _ (Jg5 l e n) b;rw [Jd8];refine bP h1 ?_;rw [Nat.pow_succ,Nat.mul_comm];exact Nat.mul_le_mul_left _ (Jo2 l a)
theorem Jpz{l:Ja}(hs:Sm l)(e:Je):∀ (n:Nat) (a0:Jp) (a:Je) (way:List Jb),way.length<=12->13<=n+way.length->a0.L.length+2 ^ (13 - way.length)<=1099511627776 ->
  Is (Ve n a0 l e a way) fun r=>r.L=a0.L++Xp l e (13 - way.length) a way
 | 0,_,_,way,h1,h2,_=>by omega
 | n+1,a0,a,way,h1,h2,h3=>by
  show Is (Vg (Ve n) a0 l e a way) _;unfold Vg;rw [Ja2,aA];have hb:=Jo2 l a;have hp:2 ^ (13 - way.length)=2 * 2 ^ (12 - way.length):=by
   rw [show 13 - way.length=(12 - way.length)+1 by omega,Nat.pow_succ]; omega
  have hq:1<=2 ^ (12 - way.length):=Nat.one_le_two_pow;rw [show 13 - way.length=(12 - way.length)+1 by omega,Jd8];generalize hg:Jko l e way (Xp l e (12 - way.length))=g;have hlen:∀ b,(g b).length<=2 ^ (12 - way.length):=fun b=>by rw [<- hg]; exact Jpj l e way _ _ (Jg5 l e _) b
  refine Is.onInl (θ:=fun o=>o=.inl (a0.L++(Fx l a).flatMap g)) ?_ (fun v hv=>?_) (fun b hb=>by cases hb)
  ·refine Is.loop (mk:=fun i (s:List (List Jb))=>((i:Int),s)) (Fx l a).length (fun i s=>s=a0.L++((Fx l a).take i).flatMap g) a0.L sG (fun i s hi hI=>?_) (fun s hI=>?_)
   ·have hi3:(i+1) * 2 ^ (12 - way.length)=i * 2 ^ (12 - way.length)+2 ^ (12 - way.length):=bQ _ _;have hi2:i * 2 ^ (12 - way.length)<=1 * 2 ^ (12 - way.length):=bM _ oG;have hsl:s.length<=a0.L.length+i * 2 ^ (12 - way.length):=by
     have h4:=Jbm g (2 ^ (12 - way.length)) ((Fx l a).take i) fun b _=>hlen b;rw [aU,Nat.min_eq_left oG] at h4;rw [hI,aM]; omega
    have hx:=aB hi;have htk:((Fx l a).take (i+1)).flatMap g=((Fx l a).take i).flatMap g++g (Fx l a)[i]:=by
     rw [cV,hx,Option.toList_some,List.flatMap_append]; simp
    simp only [Zg];rw [decide_eq_true oG,cond_true];refine Is.onInl (θ:=fun o=>o=.inl (a0.L++((Fx l a).take (i+1)).flatMap g)) ?_ (fun v hv=>?_) (fun b hb=>by cases hb)
    ·refine Is.bind (Is.app (by simp only [aN,Jx,Enc.b]; omega)) fun M hM=>?_;rw [hM,List.nil_append];refine Is.at hx ?_;refine Is.bind (Is.app (by simp only [aE,aN,Jx,Enc.b]; omega)) fun M hM=>?_;subst hM;have hlen2:(way++[(Fx l a)[i]]).length=way.length+1:=by simp
     rw [htk,<- cR,<- hI,<- hg];unfold Jko;rw [Kci hs.jo e oG,aA];cases hft:Jue l e (way++[(Fx l a)[i]]) with
     | false=>exact Is.val (by rw [cond_false,bL])
     | true=>
      simp only [aY,cond_false,cond_true];refine Is.at hx ?_;rw [Jw0 hs,aA];show Is (bif Jt2 l (Fx l a)[i] then _ else _) _;cases hend:Jt2 l (Fx l a)[i] with
      | true=>
       simp only [cond_true];refine Is.bind (Is.app (by simp only [aE,aN,Jx,Enc.b]; omega)) fun M hM=>?_;subst hM;exact Is.val rfl
      | false=>
       simp only [cond_false];refine Is.at hx ?_;rw [Rh hs.jo,aA];have f2:=(Jne.1 hft).2.1;refine (Jpz hs e n ⟨s⟩ _ _ f2 oG (by show s.length+_<=_; rw [hlen2,show 13 - (way.length+1)=12 - way.length by omega]; omega)).bind fun r hr=>?_;rw [hlen2,show 13 - (way.length+1)=12 - way.length by omega] at hr;exact Is.val (by rw [hr])
    ·cases hv;exact Is.val ⟨_,by rw [Hz oG oG]; rfl,rfl⟩
   ·simp only [Zg];rw [decide_eq_false oG,cond_false];exact Is.val (by rw [hI,bA])
  ·cases hv;exact Is.val rfl
theorem Is.sadd{a b:ByteArray}(h:a.size+b.size<=9223372036854775807):Is (Jgn a b) fun M=>M=a++b:=⟨a++b,by unfold Jgn; rw [if_pos h],rfl⟩
def sgN(l:Ja)(i:Int):ByteArray:=((l.Signals[i.toNat]?).map (·.Name)).getD ByteArray.empty
def Kcg : ByteArray:=ByteArray.mk #[45,101,110,100]
def Jvy : ByteArray:=ByteArray.mk #[45]
def Keh : ByteArray:=ByteArray.mk #[46]
def Jdy(l:Ja)(i x:Int):ByteArray:=if x<0 then sgN l i++Kcg else sgN l i++Jvy++sgN l x
theorem Jrw{l:Ja}{i:Int}{y:Kj}(h:l.Signals[i.toNat]? = some y):sgN l i=y.Name:=by unfold sgN; rw [h]; rfl
theorem Jid{l:Ja}(h:Sm l)(i:Int):(sgN l i).size<=1048576:=by
 unfold sgN;cases hy:l.Signals[i.toNat]? with
 | none=>simp
 | some y=>exact h.sgn y (aD hy)
theorem Jve{l:Ja}(h:Sm l)(i x:Int):(Jdy l i x).size<=3000000:=by
 have h1:=Jid h i;have h2:=Jid h x;have h3:Kcg.size=4:=rfl;have h4:Jvy.size=1:=rfl;unfold Jdy;split
 ·rw [dA]; omega
 ·rw [dA,dA]; omega
theorem Jp5{l:Ja}(h:Sm l){i x:Int}(hi:0<=i/\i<(l.Signals.length:Nat))(hx:x = -1\/(0<=x/\x<(l.Signals.length:Nat))):Wi l i x=some (Jdy l i x):=by
 have:Is (Wi l i x) fun M=>M=Jdy l i x:=by
  unfold Wi Jdy;have h1:=Jid h i;have h2:=Jid h x;have h3:Kcg.size=4:=rfl;have h4:Jvy.size=1:=rfl;refine Is.cond (fun h0=>?_) fun h0=>?_
  ·rw [if_pos (of_decide_eq_true h0)];refine (Is.ix hi.1 hi.2).bind fun y hy=>?_;rw [<- Jrw hy];exact (Is.sadd (b:=Kcg) (by rw [h3]; omega)).bind fun M hM=>Is.val hM
  ·rw [if_neg (of_decide_eq_false h0)];have h0:=of_decide_eq_false h0;refine (Is.ix hi.1 hi.2).bind fun y hy=>?_;rw [<- Jrw hy];refine (Is.sadd (b:=Jvy) (by rw [h4]; omega)).bind fun M hM=>?_;have hM1:M.size=(sgN l i).size+1:=by rw [hM,dA,h4]
   refine (Is.ix oG oG).bind fun z hz=>?_;rw [<- Jrw hz];exact (Is.sadd oG).bind fun M' hM'=>Is.val (by rw [hM',hM])
 obtain ⟨M,h1,rfl⟩:=this;exact h1
theorem Jvv{n:Int}(h0:0<=n)(h1:n<1000000):Is (Ze n) fun M=>M.size<=6:=by
 unfold Ze;refine Is.onInl (θ:=fun o=>∃ M,o=.inl M/\M.size<=6) ?_ (fun v hv=>?_) (fun b hb=>by obtain ⟨x,hx,_⟩:=hb; cases hx)
 ·refine Is.loop (mk:=fun _ (s:Int×ByteArray)=>s) 6 (fun i s=>0<=s.1/\s.1<10 ^ (6 - i)/\s.2.size<=i) (n,ByteArray.empty) ⟨h0,h1,aI _⟩ (fun i s hi hI=>?_) (fun s hI=>?_)
  ·obtain ⟨x,b⟩:=s;obtain ⟨g1,g2,g3⟩:=hI;simp only at g1 g2 g3;simp only [Fs];refine Is.cond (fun hx=>?_) fun _=>Is.val ⟨b,rfl,by omega⟩;have hx:=of_decide_eq_true hx;have hs:∀ y:Int,(bytesOf [y]).size=1:=fun y=>rfl;have hp:(10:Int) ^ (6 - i)=10 ^ (6 - (i+1)) * 10:=by rw [show 6 - i=(6 - (i+1))+1 by omega,Int.pow_succ]
   have hle:(10:Int) ^ (6 - i)<=1000000:=by
    have:i=0\/i=1\/i=2\/i=3\/i=4\/i=5:=by omega
    rcases this with rfl|rfl|rfl|rfl|rfl|rfl <;> decide
   refine (Is.sadd (by rw [hs]; omega)).bind fun M hM=>Is.val ⟨(w64 (x.tdiv 10),M),rfl, ?_⟩;have hd:x.tdiv 10=x / 10:=Int.tdiv_eq_ediv_of_nonneg g1;have hw:w64 (x.tdiv 10)=x / 10:=by rw [hd]; exact Hz oG oG
   refine ⟨by simp only [hw]; omega,by simp only [hw]; omega, ?_⟩;simp only [hM,dA,hs]; omega
  ·obtain ⟨x,b⟩:=s;obtain ⟨g1,g2,g3⟩:=hI;simp only at g1 g2 g3;simp only [Fs];rw [decide_eq_false (by simp at g2; omega),cond_false];exact Is.val ⟨b,rfl,g3⟩
 ·obtain ⟨M,e1,e2⟩:=hv;cases e1;exact Is.val e2
noncomputable def Kck(n:Nat):ByteArray:=(Ze (n:Int)).getD ByteArray.empty
theorem Jvu{n:Nat}(h:n<1000000):Ze (n:Int)=some (Kck n)/\(Kck n).size<=6:=by
 obtain ⟨M,h1,h2⟩:=Jvv (n:=(n:Int)) oG oG;unfold Kck;rw [h1];exact ⟨rfl,h2⟩
def Jwf(p:List Jb):Je:=match p.getLast? with|some s=>⟨s.El,s.Out⟩|none=>⟨0,0⟩
def Lc(l:Ja)(p:List Jb):Int:=Jas l.Signals (Jwf p)
def Cn(P:List (List Jb))(k:Nat):List Jb:=(P[k]?).getD []
def Jk5(l:Ja)(i:Int)(P:List (List Jb))(x:Int):Nat->Nat
 | 0=>1
 | k+1=>if Jdy l i (Lc l (Cn P k))=Jdy l i x then Jk5 l i P x k+1 else Jk5 l i P x k
theorem Jp1(l:Ja)(i:Int)(P:List (List Jb))(x:Int)(k:Nat):Jk5 l i P x (k+1)=if Jdy l i (Lc l (Cn P k))=Jdy l i x then Jk5 l i P x k+1 else Jk5 l i P x k:=rfl
theorem Jqf(l:Ja)(i:Int)(P:List (List Jb))(x:Int):∀ k,Jk5 l i P x k<=k+1
 | 0=>aI _
 | k+1=>by
  have:=Jqf l i P x k;rw [Jp1];split <;> omega
noncomputable def Kae(l:Ja)(i:Int)(P:List (List Jb))(k:Nat):ByteArray :=
 if 1<Jk5 l i P (Lc l (Cn P k)) k then Jdy l i (Lc l (Cn P k))++Keh++Kck (Jk5 l i P (Lc l (Cn P k)) k) else Jdy l i (Lc l (Cn P k))
def atS(l:Ja)(i:Int):Je:=((l.Signals[i.toNat]?).map (·.At)).getD ⟨0,0⟩
noncomputable def Jul(l:Ja)(i:Int)(P:List (List Jb))(k:Nat):Ji :=
 Ji.mk (Kae l i P k) i (Lc l (Cn P k)) (Cn P k) (Jkt l (Cn P k)) (Jb1 l (Cn P k)) (Jnh l (atS l i).El) (w64 (Bt l (Cn P k))) [] [] [] [] [] []
noncomputable def Ji9(l:Ja)(i:Int):List (List Jb):=Xp l (Kq l (atS l i)).1 13 (Kq l (atS l i)).1 []
noncomputable def Jec(l:Ja)(i:Int):List Ji :=
 if 0<=i/\i<(l.Signals.length:Nat) then (if (Kq l (atS l i)).2=true then (List.range (Ji9 l i).length).map (Jul l i (Ji9 l i)) else []) else []
theorem Jno(l:Ja)(i:Int):(Ji9 l i).length<=8192:=Jg5 l _ 13 _ _
theorem Jpp(l:Ja)(i:Int):(Jec l i).length<=8192:=by
 have:=Jno l i;unfold Jec;split
 ·split
  ·simpa using this
  ·simp
 ·simp
theorem Jft{P:List (List Jb)}{k:Nat}(h:k<P.length):P[k]? = some (Cn P k):=by
 unfold Cn; rw [aB h]; rfl
theorem Jww{p:List Jb}(h:0<p.length)(h2:p.length<=1000):∃ s,p.getLast? = some s/\ixO p (w64 (((p.length:Nat):Int) - 1))=some s:=by
 have hw:w64 (((p.length:Nat):Int) - 1)=((p.length - 1:Nat):Int):=by rw [Hz oG oG]; omega
 rw [hw,dH];have:=aB (l:=p) (i:=p.length - 1) oG;exact ⟨_,this,Qm this⟩
theorem Jo7{l:Ja}(h:Sm l){p:List Jb}{s:Jb}(hs:p.getLast? = some s):Ch l s=some (Lc l p,Jt2 l s):=by
 rw [Jw0 h];unfold Lc Jwf;rw [hs]
theorem Jyx{l:Ja}(h:Sm l){i:Int}(hi:0<=i/\i<(l.Signals.length:Nat)){P:List (List Jb)}(hP:∀ p∈P,0<p.length/\p.length<=12)(r:Jp)(hr:r.L=P)(k:Nat)(hk:k<P.length)(hk2:P.length<=8192)(x:Int)(z:Bool)(hx:x = -1\/(0<=x/\x<(l.Signals.length:Nat))) :
  Is (Jq (Gg l i r (k:Int) (x,z)) (1,0)) fun o=>o=.inl ((Jk5 l i P x k:Nat):Int):=by
 refine Is.loop (mk:=fun j (s:Int)=>(s,(j:Int))) k (fun j s=>s=((Jk5 l i P x j:Nat):Int)) (1:Int) rfl (fun j s hj hI=>?_) (fun s hI=>?_)
 ·have hc:=Jqf l i P x j;have hjP:j<P.length:=by omega
  have hN:(((r.L:List (List Jb)).map cellsOf).length)=P.length:=by rw [aS,hr]
  simp only [Gg];rw [decide_eq_true oG,cond_true];refine Is.onInl (θ:=fun o=>o=.inl ((Jk5 l i P x (j+1):Nat):Int)) ?_ (fun v hv=>?_) (fun b hb=>by cases hb)
  ·have hg:=Jft hjP;have hld:Uy r.L (((r.L:List (List Jb)).map cellsOf).length) j=some (Cn P j):=by rw [Jwj (by rw [aS]),hr]; exact hg
   have hxi:Vz 0 (((r.L:List (List Jb)).map cellsOf).length) (j:Int)=some j:=by rw [Jtz 0 (by rw [hN]; exact hjP),aV]
   have hp:=hP _ (aD hg);obtain ⟨s1,e1,e2⟩:=Jww hp.1 oG;simp only [hxi,hld,aA];rw [e2,aA,Jo7 h e1,aA];have hex:Lc l (Cn P j) = -1\/(0<=Lc l (Cn P j)/\Lc l (Cn P j)<(l.Signals.length:Nat)):=Jn0 l.Signals (Jwf (Cn P j));show Is ((Wi l i (Lc l (Cn P j))).bind _) _;rw [Jp5 h hi hex,aA];show Is ((Wi l i x).bind _) _;rw [Jp5 h hi hx,aA,Jp1];refine Is.ite Qb (fun he=>Is.val ?_) (fun he=>Is.val ?_)
   ·rw [if_pos he,hI,Fz oG]
   ·rw [if_neg he,hI]
  ·cases hv;exact Is.val ⟨_,by rw [Fz oG],rfl⟩
 ·simp only [Gg];rw [decide_eq_false oG,cond_false];exact Is.val (by rw [hI])
theorem Kcw{l:Ja}(h:Sm l)(i:Int):Hd l i=some (Jec l i):=by
 have:Is (Hd l i) fun r=>r=Jec l i:=by
  unfold Hd;refine Is.bind (φ:=fun b=>b=true↔(i<0\/((l.Signals.length:Nat):Int)<=i)) (Is.or Qb fun _=>Is.val Qb) fun b hb=>?_;refine Is.ite hb (fun hp=>Is.val ?_) fun hp=>?_
  ·unfold Jec; rw [if_neg oG]
  have hi:0<=i/\i<(l.Signals.length:Nat):=by omega
  refine (Is.ix hi.1 hi.2).bind fun y hy=>?_;have hat:atS l i=y.At:=by unfold atS; rw [hy]; rfl
  rw [Vb h.jo,aA,<- hat];unfold Jec;rw [if_pos hi];cases hj:(Kq l (atS l i)).2 with
  | false=>exact Is.val (by rw [if_neg sG])
  | true=>
   rw [if_pos rfl];simp only [aY,cond_false];have hse:=Jpz h (Kq l (atS l i)).1 (Jaw+1) ⟨[]⟩ (Kq l (atS l i)).1 [] sG (by unfold Jaw; simp) sG;have hse:Is (Gb ⟨[]⟩ l (Kq l (atS l i)).1 (Kq l (atS l i)).1 []) _:=hse;refine hse.bind fun r hr=>?_;have hr:r.L=Ji9 l i:=hr;have hPl:=Jno l i;have hP:∀ p∈Ji9 l i,0<p.length/\p.length<=12:=fun p hp=>by
    obtain ⟨⟨s,hs,_⟩,h2,_⟩:=Jbj hp;exact ⟨Qo hs,h2⟩
   generalize Ji9 l i=P at hr hPl hP;have hN:(((r.L:List (List Jb)).map cellsOf).length)=P.length:=by rw [aS,hr]
   refine Is.onInl (θ:=fun o=>o=.inl ((List.range P.length).map (Jul l i P))) ?_ (fun v hv=>?_) (fun b hb=>by cases hb)
   ·refine Is.loop (mk:=fun k (s:List Ji)=>((k:Int),s)) P.length (fun k s=>s=(List.range k).map (Jul l i P)) [] rfl (fun k s hk hI=>?_) (fun s hI=>?_)
    ·have hg:=Jft hk;have hsl:s.length=k:=by rw [hI]; simp
     have hld:Uy r.L (((r.L:List (List Jb)).map cellsOf).length) k=some (Cn P k):=by rw [Jwj (by rw [aS]),hr]; exact hg
     have hxi:Vz 0 (((r.L:List (List Jb)).map cellsOf).length) (k:Int)=some k:=by rw [Jtz 0 (by rw [hN]; exact hk),aV]
     have hp:=hP _ (aD hg);obtain ⟨s1,e1,e2⟩:=Jww hp.1 oG;have hex:Lc l (Cn P k) = -1\/(0<=Lc l (Cn P k)/\Lc l (Cn P k)<(l.Signals.length:Nat)):=Jn0 l.Signals (Jwf (Cn P k));have hc:=Jqf l i P (Lc l (Cn P k)) k;have hts:=Jve h i (Lc l (Cn P k));simp only [Oj];rw [decide_eq_true (by rw [hN]; omega),cond_true,hxi,aA,hld,aA,e2,aA,Jo7 h e1,aA];show Is ((Wi l i (Lc l (Cn P k))).bind _) _;rw [Jp5 h hi hex,aA,Ja5 l _ oG,aA,Pb l _ oG,aA,Jdr l _ oG,aA];refine (Is.eq (show ixO l.Signals i=some y from ?_)).bind fun y' hy'=>?_
     ·have:=Is.ix (L:=l.Signals) hi.1 hi.2;obtain ⟨z,z1,z2⟩:=this;rw [hy] at z2; cases z2; exact z1
     subst hy';rw [Eo,aA];refine Is.onInl (Jyx h hi hP r hr k hk hPl (Lc l (Cn P k)) _ hex) (fun v hv=>?_) (fun b hb=>by cases hb);cases hv;refine Is.onInl (θ:=fun o=>o=.inl (Kae l i P k)) ?_ (fun v hv=>?_) (fun b hb=>by cases hb)
     ·unfold Kae;refine Is.cond (fun h1=>?_) fun h1=>?_
      ·have h1:=of_decide_eq_true h1;rw [if_pos oG];have h4:Keh.size=1:=rfl;refine (Is.sadd (b:=Keh) (by rw [h4]; omega)).bind fun M hM=>?_;have hM1:M.size<=3000001:=by rw [hM,dA,h4]; omega
       obtain ⟨d1,d2⟩:=Jvu (n:=Jk5 l i P (Lc l (Cn P k)) k) oG;rw [d1,aA];refine (Is.sadd oG).bind fun M' hM'=>Is.val ?_;rw [hM',hM]
      ·have h1:=of_decide_eq_false h1;rw [if_neg oG];exact Is.val rfl
     ·cases hv;refine (Is.app (by simp only [aE,aN,Jx,Enc.b]; omega)).bind fun M hM=>?_;refine Is.val ⟨_,by rw [Fz oG], ?_⟩;rw [hM,hI,List.range_succ,cW,<- hat]
      rfl
    ·simp only [Oj];rw [decide_eq_false (by rw [hN]; omega),cond_false];exact Is.val (by rw [hI])
   ·cases hv;exact Is.val rfl
 obtain ⟨r,h1,rfl⟩:=this;exact h1
noncomputable def Jk6(l:Ja):List Ji:=(List.range l.Signals.length).flatMap fun i=>Jec l (i:Nat)
theorem Kan{l:Ja}(h:Sm l):Mq l=some (if chk l=0 then (if 48<(Jk6 l).length then ([],2) else (Jk6 l,0)) else ([],chk l)):=by
 have:Is (Mq l) fun r=>r=(if chk l=0 then (if 48<(Jk6 l).length then ([],2) else (Jk6 l,0)) else ([],chk l)):=by
  unfold Mq;rw [Jmi h,aA];refine Is.ifn Qb (fun h0=>Is.val (by rw [if_neg h0])) fun h0=>?_;rw [if_pos h0];have hsg:=h.sg;refine Is.onInl (θ:=fun o=>o=.inl (Jk6 l)) ?_ (fun v hv=>?_) (fun b hb=>by cases hb)
  ·refine Is.loop (mk:=fun k (s:List Ji)=>((k:Int),s)) l.Signals.length (fun k s=>s=(List.range k).flatMap fun i=>Jec l (i:Nat)) [] rfl (fun k s hk hI=>?_) (fun s hI=>?_)
   ·have hsl:=Jbm (fun i:Nat=>Jec l (i:Int)) 8192 (List.range k) fun i _=>Jpp l _;rw [<- hI,List.length_range] at hsl;have hf:=Jpp l (k:Int);simp only [Rp];rw [decide_eq_true oG,cond_true,Kcw h,aA];refine (Is.app (by simp only [Jx,Enc.b]; omega)).bind fun M hM=>?_;refine Is.val ⟨_,by rw [Fz oG], ?_⟩;rw [hM,hI,List.range_succ,List.flatMap_append]; simp
   ·simp only [Rp];rw [decide_eq_false oG,cond_false];exact Is.val (by rw [hI]; rfl)
  ·cases hv;refine Is.cond (fun h1=>Is.val ?_) fun h1=>Is.val ?_
   ·have h1:=of_decide_eq_true h1;rw [if_pos oG]
   ·have h1:=of_decide_eq_false h1;rw [if_neg oG]
 obtain ⟨r,h1,rfl⟩:=this;exact h1
def stO(l:Ja)(a:Je×Bool)(o:List Jb):Je×Bool:=match o.getLast? with|some s=>Kq l ⟨s.El,s.Out⟩|none=>a
def Kde(l:Ja)(S:List Int)(lim:Int)(a:Je×Bool)(o:List Jb):Bool :=
 (stO l a o).2&&decide (w64 (Bt l o)<lim)&&decide (o.length<12) && !(Jyw o (stO l a o).1.El||inS S (Jnh l (stO l a o).1.El)) && !(Fx l (stO l a o).1).isEmpty
def OvI(l:Ja)(S:List Int)(lim:Int)(a:Je×Bool)(o:List Jb):Prop :=
 ∀ i s,o[i]? = some s->Kde l S lim a (o.take i)=true/\(Fx l (stO l a (o.take i)).1).head? = some s
structure Ov (l:Ja) (S:List Int) (lim:Int) (a:Je×Bool) (o:List Jb):Prop where
 step:OvI l S lim a o
 stop:Kde l S lim a o=false
structure RtOK (l:Ja) (r:Ji):Prop where
 ex:r.Exit = -1\/(0<=r.Exit/\r.Exit<(l.Signals.length:Nat))
 p0:0<r.Path.length
 p1:r.Path.length<=12
 se:r.Sections=Jb1 l r.Path
 po:r.Points=Jkt l r.Path
 fl:r.Flank=[]
 gu:r.Guards=[]
 ga:r.Gaps=[]
theorem Kbx{l:Ja}{r:Ji}(h:r∈Jk6 l):RtOK l r:=by
 unfold Jk6 at h;rw [dO] at h;obtain ⟨i,hi,h⟩:=h;unfold Jec at h;split at h
 ·split at h
  ·rw [bT] at h;obtain ⟨k,hk,rfl⟩:=h;rw [List.mem_range] at hk;have hg:=Jft hk;obtain ⟨⟨s,hs,_⟩,h2,_⟩:=Jbj (aD hg);exact ⟨Jn0 _ _,Qo hs,h2,rfl,rfl,rfl,rfl,rfl⟩
  ·cases h
 ·cases h
structure OvStep (l:Ja) (S:List Int) (lim:Int) (a:Je×Bool) (o:List Jb) (i:Nat) (s:Jb):Prop where
 on:(stO l a (o.take i)).2=true
 el:s.El=(stO l a (o.take i)).1.El
 si:s.In=(stO l a (o.take i)).1.Side
 po:(Jga l s).2=true
 hd:(Fx l (stO l a (o.take i)).1).head? = some s
 lt:w64 (Bt l (o.take i))<lim
 cov:∀ k t,k<i->o[k]? = some t->t.El≠s.El
 sec:Jnh l s.El∉S
def ovB(L:List Jb)(e:Int):Bool:=decide (∃ x∈L,x.El=e)
def Jmt(L:List Jf)(x:Jf):Bool:=decide (x∈L)
def Pk(r:Ji)(e:Int):Bool:=ovB r.Path e||ovB r.Over e
def Jj3(r:Ji)(x:Jf):Bool:=Jmt r.Points x||Jmt r.OverPoints x||Jmt r.Flank x
theorem Jpn(x y:Jf):Wd x y=true↔x=y:=by
 cases x; cases y; simp [Wd]
theorem Ra(o:List Jb)(e:Int)(h:o.length<=1048576):Zl o e=some (ovB o e):=by
 have:Is (Zl o e) fun b=>b=ovB o e:=by
  unfold Zl;refine Is.all (L:=o) (fun _ x=>¬ x.El=e) () oG (fun i x hx hi hI=>?_) ?_ (fun hn=>Is.val ?_)
  ·unfold Ox;refine Is.inb hi (Is.at hx ?_);refine Is.ite Qb (fun hc=>Is.val ?_) (fun hc=>Is.val ⟨rfl,hc⟩);exact (decide_eq_true (⟨x,aD hx,hc⟩:∃ x∈o,x.El=e)).symm
  ·simp [Ox]
  ·refine Eq.symm (decide_eq_false ?_);rintro ⟨x,hx,hc⟩;obtain ⟨i,hi⟩:=aX hx;exact hn i x hi hc
 obtain ⟨b,h1,h2⟩:=this;rw [h1,h2]
theorem Tq(L:List Jf)(e:Jf)(h:L.length<=1048576):Cm L e=some (Jmt L e):=by
 have:Is (Cm L e) fun b=>b=Jmt L e:=by
  unfold Cm;refine Is.all (L:=L) (fun _ x=>¬ x=e) () oG (fun i x hx hi hI=>?_) ?_ (fun hn=>Is.val ?_)
  ·unfold Rg;refine Is.inb hi (Is.at hx ?_);refine Is.ite (Jpn _ _) (fun hc=>Is.val ?_) (fun hc=>Is.val ⟨rfl,hc⟩);exact (decide_eq_true (hc▸aD hx:e∈L)).symm
  ·simp [Rg]
  ·refine Eq.symm (decide_eq_false ?_);intro hx;obtain ⟨i,hi⟩:=aX hx;exact hn i e hi rfl
 obtain ⟨b,h1,h2⟩:=this;rw [h1,h2]
structure Jhi (r:Ji):Prop where
 path:r.Path.length<=1000
 over:r.Over.length<=1000
 pts:r.Points.length<=1000
 ops:r.OverPoints.length<=1000
 flank:r.Flank.length<=1000
 secs:r.Sections.length<=1000
 osecs:r.OverSections.length<=1000
 guards:r.Guards.length<=1000
 gaps:r.Gaps.length<=1000
theorem Juc{r:Ji}(h:Jhi r)(e:Int):((Zl r.Path e).bind fun r30=>((bif r30 then some true else ((Zl r.Over e).bind fun r32=>some r32)):Option Bool))=some (Pk r e):=by
 have:=h.path; have:=h.over;rw [Ra _ _ oG,Ra _ _ oG];simp only [aA,Jcy,bC]; rfl
theorem Jfj{r:Ji}(h:Jhi r)(x:Jf):Ip r x=some (Jj3 r x):=by
 have:=h.pts; have:=h.ops; have:=h.flank;unfold Ip;rw [Tq _ _ oG,Tq _ _ oG,Tq _ _ oG];simp only [aA,Jcy,bC]; rfl
theorem Ek{l:Ja}(h:l.Signals.length<=1048576)(e:Je):Vs l e=some (Jas l.Signals e):=by
 have:Is (Vs l e) fun r=>r=Jas l.Signals e:=by
  unfold Vs;refine Is.all (L:=l.Signals) (fun _ x=>x.At≠e) () oG (fun i x hx hi hI=>?_) ?_ (fun hn=>?_)
  ·unfold Zv;refine Is.inb hi (Is.at hx (Is.ite (Mo _ _) (fun hc=>Is.val ?_) fun hc=>Is.val ⟨rfl,hc⟩));exact (Jpv hx hc hI).symm
  ·simp [Zv]
  ·refine Is.val (Jpr fun s hs=>?_).symm;obtain ⟨i,hi⟩:=aX hs;exact hn i s hi
 obtain ⟨r,h1,rfl⟩:=this;exact h1
def z0 : Jf:=⟨0,0⟩
def Je3(l:Ja)(i:Int):Int:=((l.Elements[i.toNat]?).map (·.Kind)).getD 0
def Jla(k a:Int):Int:=(Jnu k a).headD 0
def Jhf(l:Ja)(P:Int->Bool)(N:Jf->Bool):Nat->Je->Jf×Int×Bool
 | 0,_=>(z0,-1,false)
 | n+1,e=>
  if (Kq l e).2=false then (z0,-1,true) else
  if 0<=Jas l.Signals (Kq l e).1 then (z0,Jas l.Signals (Kq l e).1,true) else
  if P (Kq l e).1.El=true then (z0,-1,true) else
  if Je3 l (Kq l e).1.El=2 then
   (if (Kq l e).1.Side=0 then (z0,-1,false) else if N ⟨(Kq l e).1.El,(Kq l e).1.Side⟩=true then (z0,-1,false) else (⟨(Kq l e).1.El,3 - (Kq l e).1.Side⟩,-1,true))
  else Jhf l P N n ⟨(Kq l e).1.El,Jla (Je3 l (Kq l e).1.El) (Kq l e).1.Side⟩
structure Kf1 (l:Ja) (f:Je) (x:Kg):Prop where
 has:Vi l f.El=true
 ix:ixO l.Elements f.El=some x
 get:l.Elements[f.El.toNat]? = some x
 kind:Je3 l f.El=x.Kind
 kinds:x.Kind=1/\(f.Side=0\/f.Side=1)\/x.Kind=2/\(f.Side=0\/f.Side=1\/f.Side=2)\/x.Kind=3/\(f.Side=0\/f.Side=1\/f.Side=2\/f.Side=3)
theorem OkL.joins{l:Ja}(hl:OkL l):Jp7 l:=⟨fun j hj=>⟨(hl.joint j hj).1,(hl.joint j hj).2.1⟩,hl.ends⟩
theorem Jnq{l:Ja}(hl:OkL l){e:Je}(h:(Kq l e).2=true):∃ x,Kf1 l (Kq l e).1 x:=by
 have hex:exS l (Kq l e).1=true:=Jtc hl.joins (e:=e) (f:=(Kq l e).1) (by rw [<- h]);have hh:=Jp6 hex;obtain ⟨x,h1,h2⟩:=Wu hh;have hr:=hl.elem.1 x (aD h2);refine ⟨x,hh,h1,h2,by simp [Je3,h2], ?_⟩;simp only [exS,h2,aF,decide_eq_true_eq] at hex;obtain ⟨⟨_,hs⟩,ht⟩:=hex;have hk:=hr.1;unfold Jb0 at ht;rcases (show x.Kind=1\/x.Kind=2\/x.Kind=3 by omega) with e1|e1|e1 <;> simp only [e1] at ht ⊢ <;> simp at ht ⊢ <;> omega
theorem Juq{k a:Int}(h:k=1/\(a=0\/a=1)\/k=3/\(a=0\/a=1\/a=2\/a=3)):Jbf k a 0=some (Jla k a,true):=by
 rcases h with ⟨rfl,rfl|rfl⟩|⟨rfl,rfl|rfl|rfl|rfl⟩ <;> kernel_rfl
theorem Kd4{r:Ji}(h:Jhi r){f:Je}(hs:f.Side=1\/f.Side=2) :
  Sl r f=some (if Jj3 r ⟨f.El,f.Side⟩=true then (z0,-1,false) else (⟨f.El,3 - f.Side⟩,-1,true)):=by
 unfold Sl;rcases hs with hs|hs
 ·simp only [hs,show decide ((1:Int)=2)=false from rfl,cond_false,onInl,Wk,aA,Jfj h];cases hn:Jj3 r ⟨f.El,1⟩ <;> simp [z0]
 ·simp only [hs,show decide ((2:Int)=2)=true from rfl,cond_true,onInl,Wk,aA,Jfj h];cases hn:Jj3 r ⟨f.El,2⟩ <;> simp [z0,Wk,hn]
section
variable {l:Ja} (hs:Sm l) (hl:OkL l) {r:Ji} (hr:Jhi r)
include hs hl hr
theorem Jvb : ∀ (n i:Nat) (e:Je),i+n=4 ->
  onInl (α:=Unit) (β:=(Jf×Int×Bool)) (Jq (Kz l r) ((i:Int),e.El,e.Side)) (fun _=>some (z0,-1,false))=some (Jhf l (Pk r) (Jj3 r) n e):=by
 intro n;induction n with
 | zero=>
  intro i e hi;have:i=4:=by omega
  subst this;have hstep:Kz l r ((4:Nat),e.El,e.Side)=some (.inr (.inl ())):=rfl;rw [Qj hstep]; rfl
 | succ n ih=>
  intro i e hi;have hi4:decide ((i:Int)<4)=true:=decide_eq_true oG;have hov:=Juc hr (Kq l e).1.El;unfold Jhf
  by_cases hj:(Kq l e).2=false
  ·have hstep:Kz l r ((i:Int),e.El,e.Side)=some (.inr (.inr (z0,-1,true))):=by
    unfold Kz;simp only [hi4,cond_true,Vb hs.jo,aA,hj,cL,cond_true]; rfl
   rw [Qj hstep,if_pos hj]; rfl
  ·have hj':(Kq l e).2=true:=by simpa using hj
   obtain ⟨x,hx⟩:=Jnq hl hj';rw [if_neg hj]
   by_cases hg:0<=Jas l.Signals (Kq l e).1
   ·have hstep:Kz l r ((i:Int),e.El,e.Side)=some (.inr (.inr (z0,Jas l.Signals (Kq l e).1,true))):=by
     unfold Kz;simp only [hi4,cond_true,Vb hs.jo,aA,hj',aY,cond_false,Ek hs.sg,decide_eq_true hg]; rfl
    rw [Qj hstep,if_pos hg]; rfl
   ·rw [if_neg hg];have hg':decide (0<=Jas l.Signals (Kq l e).1)=false:=decide_eq_false hg;have hpa:=hr.path;have hpo:=hr.over;have o1:=Ra r.Path (Kq l e).1.El oG;have o2:=Ra r.Over (Kq l e).1.El oG
    by_cases hp:Pk r (Kq l e).1.El=true
    ·have hstep:Kz l r ((i:Int),e.El,e.Side)=some (.inr (.inr (z0,-1,true))):=by
      unfold Kz;simp only [Pk] at hp;simp only [hi4,cond_true,Vb hs.jo,aA,hj',aY,cond_false,Ek hs.sg,hg',o1,o2,Jcy,bC,hp]; rfl
     rw [Qj hstep,if_pos hp]; rfl
    ·rw [if_neg hp];have hp':(ovB r.Path (Kq l e).1.El||ovB r.Over (Kq l e).1.El)=false:=by simpa [Pk] using hp
     have hin:=hx.has;simp only [Vi,aF,decide_eq_true_eq] at hin;have d1:decide ((Kq l e).1.El<0)=false:=decide_eq_false oG;have d2:decide (((l.Elements.length:Nat):Int)<=(Kq l e).1.El)=false:=decide_eq_false oG;have hk:=hx.kinds
     by_cases h2:Je3 l (Kq l e).1.El=2
     ·rw [if_pos h2];rw [hx.kind] at h2
      by_cases h0:(Kq l e).1.Side=0
      ·have hstep:Kz l r ((i:Int),e.El,e.Side)=some (.inr (.inr (z0,-1,false))):=by
        unfold Kz;simp only [hi4,cond_true,Vb hs.jo,aA,hj',aY,cond_false,Ek hs.sg,hg',o1,o2,Jcy,bC,hp',d1,d2,Bool.false_or,hx.ix,h2,h0,decide_true,Bool.and_self]; rfl
       rw [Qj hstep,if_pos h0]; rfl
      ·have hsd:(Kq l e).1.Side=1\/(Kq l e).1.Side=2:=by omega
       rw [if_neg h0];have hstep:Kz l r ((i:Int),e.El,e.Side)=some (.inr (.inr (if Jj3 r ⟨(Kq l e).1.El,(Kq l e).1.Side⟩=true then (z0,-1,false) else (⟨(Kq l e).1.El,3 - (Kq l e).1.Side⟩,-1,true)))):=by
        unfold Kz;simp only [hi4,cond_true,Vb hs.jo,aA,hj',aY,cond_false,Ek hs.sg,hg',o1,o2,Jcy,bC,hp',d1,d2,Bool.false_or,hx.ix,h2,h0,decide_true,decide_false,Bool.and_false,Kd4 hr hsd]
       rw [Qj hstep]; rfl
     ·rw [if_neg h2];rw [hx.kind] at h2 ⊢;have hka:x.Kind=1/\((Kq l e).1.Side=0\/(Kq l e).1.Side=1)\/x.Kind=3/\((Kq l e).1.Side=0\/(Kq l e).1.Side=1\/(Kq l e).1.Side=2\/(Kq l e).1.Side=3):=by omega
      have hstep:Kz l r ((i:Int),e.El,e.Side)=some (.inl (((i+1:Nat):Int),(Kq l e).1.El,Jla x.Kind (Kq l e).1.Side)):=by
       unfold Kz;simp only [hi4,cond_true,Vb hs.jo,aA,hj',aY,cond_false,Ek hs.sg,hg',o1,o2,Jcy,bC,hp',d1,d2,Bool.false_or,hx.ix,h2,decide_false,Bool.false_and,Juq hka];rw [Fz oG]
      rw [Dn hstep];exact ih (i+1) ⟨(Kq l e).1.El,Jla x.Kind (Kq l e).1.Side⟩ oG
theorem Jk9(e:Je):Nu l r e=some (Jhf l (Pk r) (Jj3 r) 4 e):=Jvb hs hl hr 4 0 e rfl
end
def Jzp(l:Ja)(s:Jb):List Je :=
 bif (Jga l s).2 then ((List.range (Jb0 (Je3 l s.El)).toNat).filter fun (i:Nat)=> !decide ((i:Int)=s.In) && !decide ((i:Int)=s.Out)).map fun (i:Nat)=>(⟨s.El,(i:Int)⟩:Je) else []
theorem Jtg(k:Int):0<=Jb0 k/\Jb0 k<=4:=by
 unfold Jb0; split
 ·omega
 ·split
  ·omega
  ·split <;> omega
theorem Jm8(l:Ja)(s:Jb):(Jzp l s).length<=4:=by
 unfold Jzp;cases (Jga l s).2 with
 | false=>simp
 | true=>
  have:=Jtg (Je3 l s.El);simp only [cond_true,aS];exact bP (List.length_filter_le _ _) (by simp; omega)
theorem Jde(l:Ja)(s:Jb)(hkk:∀ x,l.Elements[s.El.toNat]? = some x->x.Kind=1\/x.Kind=2\/x.Kind=3):Bj l s=some (Jzp l s):=by
 unfold Bj Jzp;simp only [Jcy,aA,bC];have e:(decide (s.El<0)||decide (((l.Elements.length:Nat):Int)<=s.El)) = !Vi l s.El:=by
  unfold Vi; rw [dR]; simp
 rw [e];cases h:Vi l s.El with
 | false=>simp [Jga,h]
 | true=>
  obtain ⟨x,h1,h2⟩:=Wu h;have hk:Je3 l s.El=x.Kind:=by simp [Je3,h2]
  have hp:Jga l s=Jbk x.Kind s.In s.Out:=by simp [Jga,h,h2]
  simp only [aY,cond_false,h1,aA,Sn,hp,hk];have h4:=Jtg x.Kind;obtain ⟨m,hm⟩:∃ m:Nat,Jb0 x.Kind=(m:Int):=⟨(Jb0 x.Kind).toNat,by omega⟩
  rw [hm];simp only [Int.toNat_natCast];have:Is (Jq (Dj s x (Jbk x.Kind s.In s.Out)) (0,([]:List Je))) fun o=>o=.inl (bif (Jbk x.Kind s.In s.Out).2 then (((List.range m).filter fun (i:Nat)=> !decide ((i:Int)=s.In) && !decide ((i:Int)=s.Out)).map fun (i:Nat)=>(⟨s.El,(i:Int)⟩:Je)) else []):=by
   refine Is.loop (mk:=fun (i:Nat) (o:List Je)=>((i:Int),o)) m (fun i o=>o=bif (Jbk x.Kind s.In s.Out).2 then (((List.range i).filter fun (i:Nat)=> !decide ((i:Int)=s.In) && !decide ((i:Int)=s.Out)).map fun (i:Nat)=>(⟨s.El,(i:Int)⟩:Je)) else []) [] (by cases (Jbk x.Kind s.In s.Out).2 <;> simp) ?_ ?_
   ·rintro i o hi rfl;unfold Dj;have e0:decide ((i:Int)<((m:Nat):Int))=true:=decide_eq_true oG;simp only [Xg,hm,aA,e0,cond_true];refine Is.onInl (θ:=fun o=>o=.inl (bif (Jbk x.Kind s.In s.Out).2 then (((List.range (i+1)).filter fun (i:Nat)=> !decide ((i:Int)=s.In) && !decide ((i:Int)=s.Out)).map fun (i:Nat)=>(⟨s.El,(i:Int)⟩:Je)) else [])) ?_ (fun v hv=>?_) (fun b hb=>by cases hb)
    ·cases hn:(Jbk x.Kind s.In s.Out).2 with
     | false=>simp only [Bool.false_and,cond_false]; exact Is.val rfl
     | true=>
      simp only [dQ,cond_true];rw [List.range_succ,List.filter_append,cW];refine Is.cond (fun hc=>?_) (fun hc=>?_)
      ·have hlen:(((List.range i).filter fun (i:Nat)=> !decide ((i:Int)=s.In) && !decide ((i:Int)=s.Out)).map fun (i:Nat)=>(⟨s.El,(i:Int)⟩:Je)).length<=4:=by
        rw [aS]; exact bP (List.length_filter_le _ _) (by simp; omega)
       refine Is.bind (Is.app (by simp only [aE,aN,Jx,Enc.b]; omega)) fun M hM=>?_;subst hM;exact Is.val (by simp [hc])
      ·exact Is.val (by simp [hc])
    ·cases hv;exact Is.val ⟨_,by rw [Fz oG],rfl⟩
   ·rintro o rfl;unfold Dj;have e0:decide (((m:Nat):Int)<((m:Nat):Int))=false:=decide_eq_false oG;simp only [Xg,hm,aA,e0,cond_false];exact Is.val rfl
  obtain ⟨o,q1,rfl⟩:=this;simp [q1,onInl,Wk]
def Fl(l:Ja)(L:List Jb):List Je:=L.flatMap (Jzp l)
theorem Jcs(l:Ja)(A B:List Jb):Fl l (A++B)=Fl l A++Fl l B:=by simp [Fl]
theorem Xd(l:Ja):∀ L:List Jb,(Fl l L).length<=4 * L.length
 | []=>by simp [Fl]
 | s::r=>by
  have h1:=Jm8 l s;have h2:=Xd l r;simp only [Fl,dV,aM,aE] at h2 ⊢; omega
theorem Jsx{l:Ja}(hl:OkL l)(s:Jb)(x:Kg)(h:l.Elements[s.El.toNat]? = some x):x.Kind=1\/x.Kind=2\/x.Kind=3:=by
 have:=(hl.elem.1 x (aD h)).1; omega
theorem Jmk{l:Ja}(hl:OkL l){r:Ji}(h:Jhi r):Iw l r=some (Fl l (r.Path++r.Over)):=by
 have hp:=h.path;have ho:=h.over;have h1:Is (Jq (Es l r) (0,([]:List Je))) fun o=>o=.inl (Fl l r.Path):=by
  refine Is.loop (mk:=fun (i:Nat) (o:List Je)=>((i:Int),o)) r.Path.length (fun i o=>o=Fl l (r.Path.take i)) [] (by simp [Fl]) ?_ ?_
  ·rintro i o hi rfl;unfold Es;obtain ⟨s,hs⟩:∃ y,r.Path[i]? = some y:=⟨_,aB hi⟩
   have e0:decide ((i:Int)<((r.Path.length:Nat):Int))=true:=decide_eq_true oG;have hlen:=Xd l (r.Path.take i);have hb:=Jm8 l s;rw [aU] at hlen;simp only [Qm hs,e0,cond_true,aA,Jde l s (Jsx hl s)];refine Is.bind (Is.app (by simp only [Jx,Enc.b]; omega)) fun M hM=>?_;subst hM;refine Is.val ⟨_,by rw [Fz oG], ?_⟩;rw [Yg hs,Jcs]; simp [Fl]
  ·rintro o rfl;unfold Es;have e0:decide (((r.Path.length:Nat):Int)<((r.Path.length:Nat):Int))=false:=decide_eq_false oG;simp only [e0,cond_false];exact Is.val (by rw [bA])
 have h2:Is (Jq (Eg l r) (Fl l r.Path,0)) fun o=>o=.inl (Fl l r.Path++Fl l r.Over):=by
  have hpl:=Xd l r.Path;refine Is.loop (mk:=fun (i:Nat) (o:List Je)=>(o,(i:Int))) r.Over.length (fun i o=>o=Fl l r.Path++Fl l (r.Over.take i)) (Fl l r.Path) (by simp [Fl]) ?_ ?_
  ·rintro i o hi rfl;unfold Eg;obtain ⟨s,hs⟩:∃ y,r.Over[i]? = some y:=⟨_,aB hi⟩
   have e0:decide ((i:Int)<((r.Over.length:Nat):Int))=true:=decide_eq_true oG;have hlen:=Xd l (r.Over.take i);have hb:=Jm8 l s;rw [aU] at hlen;simp only [Qm hs,e0,cond_true,aA,Jde l s (Jsx hl s)];refine Is.bind (Is.app (by simp only [Jx,Enc.b,aM]; omega)) fun M hM=>?_;subst hM;refine Is.val ⟨_,by rw [Fz oG], ?_⟩;rw [Yg hs,Jcs,cR]; simp [Fl]
  ·rintro o rfl;unfold Eg;have e0:decide (((r.Over.length:Nat):Int)<((r.Over.length:Nat):Int))=false:=decide_eq_false oG;simp only [e0,cond_false];exact Is.val (by rw [bA])
 obtain ⟨o1,q1,rfl⟩:=h1;obtain ⟨o2,q2,rfl⟩:=h2;unfold Iw;rw [q1];simp only [onInl,Wk,aA,q2,Jcs]
structure FG where
 flank:List Jf
 guards:List Int
 gaps:List Je
def Jd5(x:FG)(e:Je)(s:Jf×Int×Bool):FG :=
 if s.2.2=false then ⟨x.flank,x.guards,x.gaps++[e]⟩ else
 if 0<=s.2.1 then ⟨x.flank,x.guards++[s.2.1],x.gaps⟩ else
 if s.1=z0 then x else ⟨x.flank++[s.1],x.guards,x.gaps⟩
def Jds(N:Jf->Bool)(x:FG)(s:Jf):Bool:=N s||Jmt x.flank s
def Ja8(l:Ja)(P:Int->Bool)(N:Jf->Bool):List Je->FG->FG
 | [],x=>x
 | e::r,x=>Ja8 l P N r (Jd5 x e (Jhf l P (Jds N x) 4 e))
theorem Jh7(l:Ja)(P:Int->Bool)(N:Jf->Bool):∀ (A B:List Je) (x:FG),Ja8 l P N (A++B) x=Ja8 l P N B (Ja8 l P N A x)
 | [],_,_=>rfl
 | e::A,B,x=>Jh7 l P N A B _
structure Jxk (x:FG) (n:Nat):Prop where
 flank:x.flank.length<=n
 guards:x.guards.length<=n
 gaps:x.gaps.length<=n
theorem Jw9{x:FG}{n:Nat}(h:Jxk x n)(e:Je)(s:Jf×Int×Bool):Jxk (Jd5 x e s) (n+1):=by
 have h1:=h.flank;have h2:=h.guards;have h3:=h.gaps;unfold Jd5;split
 ·exact ⟨by simp only; omega,by simp only; omega,by simp; omega⟩
 ·split
  ·exact ⟨by simp only; omega,by simp; omega,by simp only; omega⟩
  ·split
   ·exact ⟨by omega,by omega,by omega⟩
   ·exact ⟨by simp; omega,by simp only; omega,by simp only; omega⟩
theorem Jjt(l:Ja)(P:Int->Bool)(N:Jf->Bool):∀ (A:List Je) (x:FG) (n:Nat),Jxk x n->Jxk (Ja8 l P N A x) (n+A.length)
 | [],x,n,h=>h
 | e::A,x,n,h=>by
  have:=Jjt l P N A _ (n+1) (Jw9 h e (Jhf l P (Jds N x) 4 e));rw [aE,show n+(A.length+1)=n+1+A.length by omega];exact this
def Jjj(r:Ji)(s:Jf):Bool:=Jmt r.Points s||Jmt r.OverPoints s
def fg0 : FG:=⟨[],[],[]⟩
def Jns(l:Ja)(r:Ji):FG:=Ja8 l (Pk r) (Jjj r) (Fl l (r.Path++r.Over)) fg0
def Jir(r:Ji)(x:FG):Ji:=⟨r.Name,r.Entry,r.Exit,r.Path,r.Points,r.Sections,r.Approach,r.Length,r.Over,r.OverPoints,r.OverSections,x.flank,x.guards,x.gaps⟩
theorem Jg3{r:Ji}(h:Jhi r){x:FG}(hx:Jxk x 1000):Jhi (Jir r x):=⟨h.path,h.over,h.pts,h.ops,hx.flank,h.secs,h.osecs,hx.guards,hx.gaps⟩
theorem Jvk(r:Ji)(x:FG):Jj3 (Jir r x)=Jds (Jjj r) x:=rfl
section
variable {l:Ja} (hs:Sm l) (hl:OkL l) {r:Ji} (hr:Jhi r)
include hs hl hr
end
def sF(L:List Jf):List Jf:=ddS (L.mergeSort fun x y=> !ltS y x)
def sGq(L:List Int):List Int:=ddS (L.mergeSort fun x y=>decide (x<=y))
theorem Kfc(L:List Jf)(x:Jf):x∈sF L↔x∈L:=by rw [sF,Jre,(cX _ _).mem_iff]
theorem Keu(L:List Int)(x:Int):x∈sGq L↔x∈L:=by rw [sGq,Jre,(cX _ _).mem_iff]
theorem Kfb(L:List Jf):(sF L).length<=L.length:=bP (Jrf _) (by rw [(cX _ _).length_eq]; exact aI _)
theorem Kfa(L:List Int):(sGq L).length<=L.length:=bP (Jrf _) (by rw [(cX _ _).length_eq]; exact aI _)
theorem Kfg(L:List Jf):Asc (sF L):=by
 refine Jhe Jqt Jq9 _ ?_;have:=List.pairwise_mergeSort (le:=fun x y=> !ltS y x) (fun a b c h1 h2=>?_) (fun a b=>?_) L
 ·exact this.imp fun h=>by simpa using h
 ·simp only [Jag,bK,decide_eq_false_iff_not] at *; omega
 ·cases h:ltS b a with
  | false=>rfl
  | true=>
   have:ltS a b=false:=by rw [Jag,decide_eq_true_iff] at h; rw [Jag,decide_eq_false_iff_not]; omega
   simp [this]
theorem Ke6(L:List Int):(sGq L).Pairwise fun x y=>x<y:=by
 have h1:(sGq L).Pairwise fun x y=>decide (x<y)=true:=by
  refine Jhe (lt:=fun x y=>decide (x<y)) (fun x y z h1 h2=>by simp at h1 h2 ⊢; omega) (fun x y h=>by simp at h ⊢; omega) _ ?_;have:=List.pairwise_mergeSort (le:=fun (x y:Int)=>decide (x<=y)) (fun a b c h1 h2=>by simp at h1 h2 ⊢; omega) (fun a b=>by simp; omega) L;exact this.imp fun h=>by simp at h ⊢; omega
 exact h1.imp fun h=>by simpa using h
def Kc7(l:Ja)(r:Ji):Ji:=Jir r ⟨sF (Jns l r).flank,sGq (Jns l r).guards,(Jns l r).gaps⟩
theorem Kav(l:Ja){r:Ji}(hp:r.Path.length<=40)(ho:r.Over.length<=40):Jxk (Jns l r) 400:=by
 have h:=Jjt l (Pk r) (Jjj r) (Fl l (r.Path++r.Over)) fg0 0 ⟨by simp [fg0],by simp [fg0],by simp [fg0]⟩;have h2:=Xd l (r.Path++r.Over);rw [aM] at h2;exact ⟨by have:=h.flank; unfold Jns; omega,by have:=h.guards; unfold Jns; omega,by have:=h.gaps; unfold Jns; omega⟩
theorem Jxv(l:Ja){r:Ji}(hr:Jhi r)(hp:r.Path.length<=40)(ho:r.Over.length<=40):Jhi (Kc7 l r):=by
 have hL:=Kav l hp ho;refine Jg3 hr ⟨?_, ?_,by have:=hL.gaps; simp only; omega⟩
 ·have:=Kfb (Jns l r).flank; have:=hL.flank; simp only; omega
 ·have:=Kfa (Jns l r).guards; have:=hL.guards; simp only; omega
structure SrOk (l:Ja) (P:Int->Bool) (N:Jf->Bool) (t:Jf×Int×Bool):Prop where
 guard:0<=t.2.1->t.2.1<(l.Signals.length:Nat)
 set:t.1≠z0->Vi l t.1.El=true/\Je3 l t.1.El=2/\(t.1.Pos=1\/t.1.Pos=2)/\P t.1.El=false/\N ⟨t.1.El,3 - t.1.Pos⟩=false
theorem Kb2(L:List Kj)(e:Je):Jas L e<(L.length:Nat):=by
 unfold Jas;split
 ·next i h=>
  have:=(dK.1 h).1;omega
 ·omega
theorem Jrh{l:Ja}(hl:OkL l)(P:Int->Bool)(N:Jf->Bool):∀ (n:Nat) (e:Je),SrOk l P N (Jhf l P N n e)
 | 0,e=>⟨fun h=>by simp [Jhf] at h,fun h=>absurd rfl h⟩
 | n+1,e=>by
  unfold Jhf;split
  ·exact ⟨fun h=>by simp at h,fun h=>absurd rfl h⟩
  ·next hj=>
   obtain ⟨x,hx⟩:=Jnq hl (e:=e) (by simpa using hj);split
   ·exact ⟨fun _=>Kb2 _ _,fun h=>absurd rfl h⟩
   ·split
    ·exact ⟨fun h=>by simp at h,fun h=>absurd rfl h⟩
    ·next hp=>
     split
     ·next hk=>
      split
      ·exact ⟨fun h=>by simp at h,fun h=>absurd rfl h⟩
      ·next h0=>
       split
       ·exact ⟨fun h=>by simp at h,fun h=>absurd rfl h⟩
       ·next hN=>
        refine ⟨fun h=>by simp at h,fun _=>⟨hx.has,hk, ?_,by simpa using hp, ?_⟩⟩
        ·have:=hx.kinds;rw [hx.kind] at hk;simp only; omega
        ·simp only;rw [show 3 - (3 - (Kq l e).1.Side)=(Kq l e).1.Side by omega]
         simpa using hN
     ·exact Jrh hl P N n _
structure Kbj (l:Ja) (P:Int->Bool) (x:FG):Prop where
 flank:∀ y∈x.flank,Vi l y.El=true/\Je3 l y.El=2/\(y.Pos=1\/y.Pos=2)/\P y.El=false
 one:∀ y∈x.flank,∀ z∈x.flank,y.El=z.El->y=z
 guards:∀ g∈x.guards,0<=g/\g<(l.Signals.length:Nat)
theorem Jsm{l:Ja}{P:Int->Bool}{N:Jf->Bool}{x:FG}(h:Kbj l P x)(e:Je){t:Jf×Int×Bool}(ht:SrOk l P (Jds N x) t):Kbj l P (Jd5 x e t):=by
 unfold Jd5;split
 ·exact ⟨h.flank,h.one,h.guards⟩
 ·split
  ·next h2=>
   refine ⟨h.flank,h.one,fun g hg=>?_⟩;rcases aW.1 hg with hg|hg
   ·exact h.guards g hg
   ·simp at hg; subst hg; exact ⟨h2,ht.guard h2⟩
  ·split
   ·exact h
   ·next h3=>
    obtain ⟨g1,g2,g3,g4,g5⟩:=ht.set h3;have key:∀ y∈x.flank,y.El=t.1.El->y=t.1:=by
     intro y hy ey;have h1:=(h.flank y hy).2.2.1;have hn:y≠⟨t.1.El,3 - t.1.Pos⟩:=by
      rintro rfl;have:Jmt x.flank ⟨t.1.El,3 - t.1.Pos⟩=true:=decide_eq_true hy;simp only [Jds,this,Bool.or_true] at g5;cases g5
     obtain ⟨a,b⟩:=y;generalize t.1=u at ey g3 hn ⊢;obtain ⟨c,d⟩:=u;simp only at ey h1 g3 hn;subst ey;have:b=d:=by
      rcases h1 with rfl|rfl <;> rcases g3 with rfl|rfl <;> first|rfl|exact absurd rfl hn
     rw [this]
    refine ⟨fun y hy=>?_,fun y hy z hz ez=>?_,h.guards⟩
    ·rcases aW.1 hy with hy|hy
     ·exact h.flank y hy
     ·simp at hy; subst hy; exact ⟨g1,g2,g3,g4⟩
    ·rcases aW.1 hy with hy|hy <;> rcases aW.1 hz with hz|hz
     ·exact h.one y hy z hz ez
     ·simp at hz; subst hz; exact key y hy ez
     ·simp at hy; subst hy; exact (key z hz ez.symm).symm
     ·simp at hy hz; rw [hy,hz]
theorem Jtm{l:Ja}(hl:OkL l)(P:Int->Bool)(N:Jf->Bool):∀ (A:List Je) (x:FG),Kbj l P x->Kbj l P (Ja8 l P N A x)
 | [],_,h=>h
 | e::A,x,h=>Jtm hl P N A _ (Jsm h e (Jrh hl P (Jds N x) 4 e))
def Jb6(l:List Int):Prop:=l.Pairwise (·<·)
theorem Jb6.one{a b:List Int}(ha:Jb6 a)(hb:Jb6 b)(h:∀ x,x∈a↔x∈b):a=b :=
 Rj (lt:=fun x y=>decide (x<y)) (fun x=>by simp) (fun x y z h1 h2=>by simp at h1 h2 ⊢; omega) a b (ha.imp fun h=>decide_eq_true h) (hb.imp fun h=>decide_eq_true h) h
theorem Jb6.at{L:List Int}(h:Jb6 L){i j:Nat}{x y:Int}(hx:L[i]? = some x)(hy:L[j]? = some y)(hij:i<j):x<y:=by
 have h1:=Qo hx;have h2:=Qo hy;rw [aB h1] at hx; cases hx;rw [aB h2] at hy; cases hy;exact (dJ.1 h) i j h1 h2 hij
theorem Jhl(L:List Int)(x:Int)(h:L.length<=1048576):Sj L x=some (decide (x∈L)):=by
 unfold Sj;rw [Jfy (fun y=>decide (y=x)) (fun _=>.inr true) (.inl ()) L oG]
 ·cases hf:L.find? (fun y=>decide (y=x)) with
  | none=>
   rw [List.find?_eq_none] at hf;have:¬ x∈L:=fun hx=>hf x hx sG;simp [onInl,Wk,this]
  | some y=>
   have h1:=List.mem_of_find?_eq_some hf;have h2:=List.find?_some hf;simp only [decide_eq_true_eq] at h2;subst h2;simp [onInl,Wk,h1]
 ·intro i y hy;have hi:=Qo hy;simp only [Rf,Qm hy,show decide ((i:Int)<((L.length:Nat):Int))=true by simp; omega,cond_true,aA]
 ·simp [Rf]
structure Ke5 (L:List Int) (x:Int) (i:Nat) (d:Bool) (o:List Int):Prop where
 asc:Jb6 o
 mem:∀ y,y∈o↔y∈L.take i\/(d=true/\y=x)
 len:o.length<=i+1
 no:d=false->∀ y∈L.take i,y<x
 yes:d=true->∀ (j:Nat) y,i<=j->L[j]? = some y->x<y
theorem Kbn{L:List Int}(h:Jb6 L){i:Nat}{y z:Int}(hy:L[i]? = some y)(hz:z∈L.take i):z<y:=by
 obtain ⟨j,hj⟩:=List.mem_iff_getElem?.1 hz;have h1:=Qo hj;rw [aU] at h1;rw [cO] at hj;split at hj
 ·exact h.at hj hy oG
 ·cases hj
theorem Jdh(L:List Int)(x:Int)(hL:Jb6 L)(h:L.length<=1000000):Is (Df L x) fun M=>Jb6 M/\(∀ y,y∈M↔y∈L\/y=x)/\M.length<=L.length+1:=by
 unfold Df;rw [Jhl L x oG,aA];refine Is.ite (p:=x∈L) Qb (fun hx=>Is.val ⟨hL,fun y=>⟨.inl, ?_⟩,by omega⟩) (fun hx=>?_)
 ·rintro (h|rfl)
  ·exact h
  ·exact hx
 refine Is.onInl (θ:=fun o=>∃ r,o=.inl r/\Ke5 L x L.length r.2 r.1) ?_ ?_ (fun b hb=>by obtain ⟨_,hb,_⟩:=hb; cases hb)
 ·refine Is.loop (mk:=fun (i:Nat) (s:Bool×List Int)=>(s.1,(i:Int),s.2)) L.length (fun i s=>Ke5 L x i s.1 s.2) (false,[]) ⟨List.Pairwise.nil,fun y=>by simp,by simp,fun _ y hy=>by simp at hy,fun h=>by cases h⟩ ?_ ?_
  ·rintro i ⟨d,o⟩ hi hI;unfold Hu;simp only at hI;obtain ⟨y,hy⟩:∃ y,L[i]? = some y:=⟨_,aB hi⟩
   have hlen:=hI.len;have hmem:y∈L:=aD hy;have e0:decide ((i:Int)<((L.length:Nat):Int))=true:=decide_eq_true oG;simp only [Qm hy,e0,cond_true,aA,Fa,dF];refine Is.onInl (θ:=fun v=>∃ r,v=.inl r/\r.1.length<=i+2 - 1+1 - 1+1/\Ke5 L x (i+1) r.2 (r.1++[y])) ?_ ?_ (fun b hb=>by obtain ⟨_,hb,_⟩:=hb; cases hb)
   ·refine Is.cond (fun hc=>?_) (fun hc=>?_)
    ·simp only [aF,bK,decide_eq_true_eq] at hc;obtain ⟨rfl,hc⟩:=hc;have hol:o.length<=i:=by
      have e:o=L.take i:=hI.asc.one (hL.sublist (List.take_sublist i L)) (fun z=>by rw [hI.mem]; simp);rw [e,aU]; omega
     refine Is.bind (Is.app (by simp only [aE,aN,Jx,Enc.b]; omega)) fun M hM=>?_;subst hM;refine Is.val ⟨_,rfl,by simp; omega, ?_⟩;refine ⟨?_,fun z=>?_,by simp; omega,fun h=>(by cases h),fun _ j z hj hz=>?_⟩
     ·unfold Jb6;rw [cR,bW];refine ⟨hI.asc,by simp [hc],fun a ha b hb=>?_⟩;have h1:a∈L.take i:=by
       have:=(hI.mem a).1 ha;rcases this with h|⟨h,_⟩
       ·exact h
       ·cases h
      have h2:=hI.no rfl a h1;simp at hb;rcases hb with rfl|rfl <;> omega
     ·rw [Yg hy];simp only [aW,cG,hI.mem,aP,false_and,or_false,true_and];exact or_right_comm
     ·by_cases e:j=i
      ·subst e; rw [hy] at hz; cases hz; exact hc
      ·exact Int.lt_trans hc (hL.at hy hz oG)
    ·have hol:o.length<=i+1:=hI.len;refine Is.val ⟨_,rfl,by simp; omega, ?_⟩;have hd:d=false->y<x:=by
      rintro rfl;simp only [cL,dQ,decide_eq_false_iff_not] at hc;have:y≠x:=fun e=>hx (e▸hmem);omega
     refine ⟨?_,fun z=>?_, ?_,fun h z hz=>?_,fun h j z hj hz=>hI.yes h j z oG hz⟩
     ·unfold Jb6;rw [bW];refine ⟨hI.asc,by simp,fun a ha b hb=>?_⟩;simp at hb; subst hb;rcases (hI.mem a).1 ha with h|⟨h,rfl⟩
      ·exact Kbn hL hy h
      ·exact hI.yes h i _ (aI _) hy
     ·rw [Yg hy];simp only [aW,cG,hI.mem];exact or_right_comm
     ·simp; omega
     ·rw [Yg hy] at hz;rcases aW.1 hz with hz|hz
      ·exact hI.no h z hz
      ·simp at hz; subst hz; exact hd h
   ·rintro ⟨o',d'⟩ ⟨r,hr,hl,hI'⟩;cases hr;refine Is.bind (Is.app (by simp only [aE,aN,Jx,Enc.b]; simp only at hl; omega)) fun M hM=>?_;subst hM;exact Is.val ⟨(d',o'++[y]),by rw [Fz oG],hI'⟩
  ·rintro ⟨d,o⟩ hI;unfold Hu;have e0:decide (((L.length:Nat):Int)<((L.length:Nat):Int))=false:=decide_eq_false oG;simp only [e0,cond_false];exact Is.val ⟨_,rfl,hI⟩
 ·rintro ⟨o,d⟩ ⟨r,hr,hI⟩;cases hr;simp only at hI;have hlen:=hI.len;refine Is.onInl (θ:=fun v=>∃ M,v=.inl M/\Jb6 M/\(∀ y,y∈M↔y∈L\/y=x)/\M.length<=L.length+1) ?_ (fun v hv=>?_) (fun b hb=>by obtain ⟨_,hb,_⟩:=hb; cases hb)
  ·cases d with
   | true=>
    simp only [aY,cond_false];exact Is.val ⟨_,rfl,hI.asc,fun y=>by rw [hI.mem]; simp,hlen⟩
   | false=>
    have hol:o=L:=hI.asc.one hL (fun z=>by rw [hI.mem]; simp);subst hol;simp only [cL,cond_true];refine Is.bind (Is.app (by simp only [aE,aN,Jx,Enc.b]; omega)) fun M hM=>?_;subst hM;refine Is.val ⟨_,rfl, ?_,fun y=>by simp,by simp⟩;unfold Jb6;rw [bW];refine ⟨hL,by simp,fun a ha b hb=>?_⟩;simp at hb; subst hb;exact hI.no rfl a (by rw [bA]; exact ha)
  ·obtain ⟨M,rfl|_,h1,h2,h3⟩:=hv;exact Is.val ⟨h1,h2,h3⟩
theorem Joi(L:List Int)(h:L.length<=1000000):Is (Pa L) fun M=>Jb6 M/\∀ y,y∈M↔y∈L:=by
 unfold Pa;refine Is.onInl (θ:=fun o=>∃ M,o=.inl M/\Jb6 M/\(∀ y,y∈M↔y∈L)) ?_ (fun v hv=>?_) (fun b hb=>by obtain ⟨_,hb,_⟩:=hb; cases hb)
 ·first
   | refine Is.loop (mk:=fun (i:Nat) (o:List Int)=>(o,(i:Int))) L.length (fun i o=>Jb6 o/\(∀ y,y∈o↔y∈L.take i)/\o.length<=i) [] ⟨List.Pairwise.nil,fun y=>by simp,by simp⟩ ?_ ?_
   | refine Is.loop (mk:=fun (i:Nat) (o:List Int)=>((i:Int),o)) L.length (fun i o=>Jb6 o/\(∀ y,y∈o↔y∈L.take i)/\o.length<=i) [] ⟨List.Pairwise.nil,fun y=>by simp,by simp⟩ ?_ ?_
  ·rintro i o hi ⟨h1,h2,h3⟩;unfold Ok;obtain ⟨y,hy⟩:∃ y,L[i]? = some y:=⟨_,aB hi⟩
   have e0:decide ((i:Int)<((L.length:Nat):Int))=true:=decide_eq_true oG;simp only [Qm hy,e0,cond_true,aA];refine Is.bind (Jdh o y h1 oG) fun M hM=>?_;refine Is.val ⟨_,by rw [Fz oG],hM.1,fun z=>?_,by have:=hM.2.2; omega⟩;rw [hM.2.1,h2,Yg hy]; simp
  ·rintro o ⟨h1,h2,h3⟩;unfold Ok;have e0:decide (((L.length:Nat):Int)<((L.length:Nat):Int))=false:=decide_eq_false oG;simp only [e0,cond_false];exact Is.val ⟨_,rfl,h1,fun y=>by rw [h2,bA]⟩
 ·obtain ⟨M,rfl|_,h1,h2⟩:=hv;exact Is.val ⟨h1,h2⟩
def Jgb(l:List Jf):Prop:=l.Pairwise fun x y=>x.El<y.El
theorem Jgb.one{a b:List Jf}(ha:Jgb a)(hb:Jgb b)(h:∀ x,x∈a↔x∈b):a=b :=
 Rj (lt:=fun x y=>decide (x.El<y.El)) (fun x=>by simp) (fun x y z h1 h2=>by simp at h1 h2 ⊢; omega) a b (ha.imp fun h=>decide_eq_true h) (hb.imp fun h=>decide_eq_true h) h
theorem Jgb.at{L:List Jf}(h:Jgb L){i j:Nat}{x y:Jf}(hx:L[i]? = some x)(hy:L[j]? = some y)(hij:i<j):x.El<y.El:=by
 have h1:=Qo hx;have h2:=Qo hy;rw [aB h1] at hx; cases hx;rw [aB h2] at hy; cases hy;exact (dJ.1 h) i j h1 h2 hij
theorem Jgb.asc{L:List Jf}(h:Jgb L):Asc L:=h.imp fun {x y} hxy=>by rw [Jag,decide_eq_true_iff]; exact .inl hxy
structure Kdz (L:List Jf) (x:Jf) (i:Nat) (d:Bool) (o:List Jf):Prop where
 asc:Jgb o
 mem:∀ y,y∈o↔y∈L.take i\/(d=true/\y=x)
 len:o.length<=i+1
 no:d=false->∀ y∈L.take i,y.El<x.El
 yes:d=true->∀ (j:Nat) y,i<=j->L[j]? = some y->x.El<y.El
theorem Kbd{L:List Jf}(h:Jgb L){i:Nat}{y z:Jf}(hy:L[i]? = some y)(hz:z∈L.take i):z.El<y.El:=by
 obtain ⟨j,hj⟩:=List.mem_iff_getElem?.1 hz;have h1:=Qo hj;rw [aU] at h1;rw [cO] at hj;split at hj
 ·exact h.at hj hy oG
 ·cases hj
theorem Jrk(L:List Jf)(x:Jf)(hL:Jgb L)(hne:x∈L\/∀ y∈L,y.El≠x.El)(h:L.length<=1000000):Is (Rs L x) fun M=>Jgb M/\(∀ y,y∈M↔y∈L\/y=x)/\M.length<=L.length+1:=by
 unfold Rs;rw [Tq L x oG,aA];refine Is.ite (p:=x∈L) (show Jmt L x=true↔x∈L from Qb) (fun hx=>Is.val ⟨hL,fun y=>⟨.inl, ?_⟩,by omega⟩) (fun hx=>?_)
 ·rintro (h|rfl)
  ·exact h
  ·exact hx
 have hne:∀ y∈L,y.El≠x.El:=hne.resolve_left hx;refine Is.onInl (θ:=fun o=>∃ r,o=.inl r/\Kdz L x L.length r.2 r.1) ?_ ?_ (fun b hb=>by obtain ⟨_,hb,_⟩:=hb; cases hb)
 ·refine Is.loop (mk:=fun (i:Nat) (s:Bool×List Jf)=>(s.1,(i:Int),s.2)) L.length (fun i s=>Kdz L x i s.1 s.2) (false,[]) ⟨List.Pairwise.nil,fun y=>by simp,by simp,fun _ y hy=>by simp at hy,fun h=>by cases h⟩ ?_ ?_
  ·rintro i ⟨d,o⟩ hi hI;unfold Re;simp only at hI;obtain ⟨y,hy⟩:∃ y,L[i]? = some y:=⟨_,aB hi⟩
   have hlen:=hI.len;have hmem:y∈L:=aD hy;have e0:decide ((i:Int)<((L.length:Nat):Int))=true:=decide_eq_true oG;simp only [Qm hy,e0,cond_true,aA,Fa,dF];refine Is.onInl (θ:=fun v=>∃ r,v=.inl r/\r.1.length<=i+2 - 1+1 - 1+1/\Kdz L x (i+1) r.2 (r.1++[y])) ?_ ?_ (fun b hb=>by obtain ⟨_,hb,_⟩:=hb; cases hb)
   ·refine Is.cond (fun hc=>?_) (fun hc=>?_)
    ·simp only [aF,bK,decide_eq_true_eq] at hc;obtain ⟨rfl,hc⟩:=hc;have hol:o.length<=i:=by
      have e:o=L.take i:=hI.asc.one (hL.sublist (List.take_sublist i L)) (fun z=>by rw [hI.mem]; simp);rw [e,aU]; omega
     refine Is.bind (Is.app (by simp only [aE,aN,Jx,Enc.b]; omega)) fun M hM=>?_;subst hM;refine Is.val ⟨_,rfl,by simp; omega, ?_⟩;refine ⟨?_,fun z=>?_,by simp; omega,fun h=>(by cases h),fun _ j z hj hz=>?_⟩
     ·unfold Jgb;rw [cR,bW];refine ⟨hI.asc,by simp [hc],fun a ha b hb=>?_⟩;have h1:a∈L.take i:=by
       have:=(hI.mem a).1 ha;rcases this with h|⟨h,_⟩
       ·exact h
       ·cases h
      have h2:=hI.no rfl a h1;simp at hb;rcases hb with rfl|rfl <;> omega
     ·rw [Yg hy];simp only [aW,cG,hI.mem,aP,false_and,or_false,true_and];exact or_right_comm
     ·by_cases e:j=i
      ·subst e; rw [hy] at hz; cases hz; exact hc
      ·exact Int.lt_trans hc (hL.at hy hz oG)
    ·have hol:o.length<=i+1:=hI.len;refine Is.val ⟨_,rfl,by simp; omega, ?_⟩;have hd:d=false->y.El<x.El:=by
      rintro rfl;simp only [cL,dQ,decide_eq_false_iff_not] at hc;have:=hne y hmem;omega
     refine ⟨?_,fun z=>?_, ?_,fun h z hz=>?_,fun h j z hj hz=>hI.yes h j z oG hz⟩
     ·unfold Jgb;rw [bW];refine ⟨hI.asc,by simp,fun a ha b hb=>?_⟩;simp at hb; subst hb;rcases (hI.mem a).1 ha with h|⟨h,rfl⟩
      ·exact Kbd hL hy h
      ·exact hI.yes h i _ (aI _) hy
     ·rw [Yg hy];simp only [aW,cG,hI.mem];exact or_right_comm
     ·simp; omega
     ·rw [Yg hy] at hz;rcases aW.1 hz with hz|hz
      ·exact hI.no h z hz
      ·simp at hz; subst hz; exact hd h
   ·rintro ⟨o',d'⟩ ⟨r,hr,hl,hI'⟩;cases hr;refine Is.bind (Is.app (by simp only [aE,aN,Jx,Enc.b]; simp only at hl; omega)) fun M hM=>?_;subst hM;exact Is.val ⟨(d',o'++[y]),by rw [Fz oG],hI'⟩
  ·rintro ⟨d,o⟩ hI;unfold Re;have e0:decide (((L.length:Nat):Int)<((L.length:Nat):Int))=false:=decide_eq_false oG;simp only [e0,cond_false];exact Is.val ⟨_,rfl,hI⟩
 ·rintro ⟨o,d⟩ ⟨r,hr,hI⟩;cases hr;simp only at hI;have hlen:=hI.len;refine Is.onInl (θ:=fun v=>∃ M,v=.inl M/\Jgb M/\(∀ y,y∈M↔y∈L\/y=x)/\M.length<=L.length+1) ?_ (fun v hv=>?_) (fun b hb=>by obtain ⟨_,hb,_⟩:=hb; cases hb)
  ·cases d with
   | true=>
    simp only [aY,cond_false];exact Is.val ⟨_,rfl,hI.asc,fun y=>by rw [hI.mem]; simp,hlen⟩
   | false=>
    have hol:o=L:=hI.asc.one hL (fun z=>by rw [hI.mem]; simp);subst hol;simp only [cL,cond_true];refine Is.bind (Is.app (by simp only [aE,aN,Jx,Enc.b]; omega)) fun M hM=>?_;subst hM;refine Is.val ⟨_,rfl, ?_,fun y=>by simp,by simp⟩;unfold Jgb;rw [bW];refine ⟨hL,by simp,fun a ha b hb=>?_⟩;simp at hb; subst hb;exact hI.no rfl a (by rw [bA]; exact ha)
  ·obtain ⟨M,rfl|_,h1,h2,h3⟩:=hv;exact Is.val ⟨h1,h2,h3⟩
theorem Jnc(L:List Int)(g:Int)(hL:Jb6 L)(h:L.length<=900000):Is (Iu L [g]) fun M=>Jb6 M/\(∀ y,y∈M↔y∈L\/y=g):=by
 unfold Iu;refine Is.bind (Joi L oG) fun M hM=>?_;have hML:M=L:=hM.1.one hL hM.2;subst hML;obtain ⟨K,q1,q2,q3,-⟩:=Jdh M g hL oG;have s0:Bz [g] (M,0)=some (.inl (K,1)):=by
  unfold Bz;dsimp only;rw [show decide ((0:Int)<((([g]:List Int).length:Nat):Int))=true from rfl];simp only [cond_true,show ixO [g] 0=some g from Qm (i:=0) rfl,aA,q1,show w64 (0+1)=1 by decide]
 have s1:Bz [g] (K,1)=some (.inr (.inl K)):=by
  unfold Bz;dsimp only;rw [show decide ((1:Int)<((([g]:List Int).length:Nat):Int))=false from rfl]; rfl
 rw [Dn s0,Qj s1];exact Is.val ⟨q2,q3⟩
theorem Jpm(l:Ja)(P:Int->Bool)(N:Jf->Bool):∀ (n:Nat) (e:Je),((Jhf l P N n e).2.2=false->Jhf l P N n e=(z0,-1,false))/\(0<=(Jhf l P N n e).2.1->(Jhf l P N n e).1=z0)
 | 0,e=>⟨fun _=>rfl,fun _=>rfl⟩
 | n+1,e=>by
  unfold Jhf;split
  ·exact ⟨(fun h=>by cases h),fun _=>rfl⟩
  ·split
   ·exact ⟨(fun h=>by cases h),fun _=>rfl⟩
   ·split
    ·exact ⟨(fun h=>by cases h),fun _=>rfl⟩
    ·split
     ·split
      ·exact ⟨fun _=>rfl,fun _=>rfl⟩
      ·split
       ·exact ⟨fun _=>rfl,fun _=>rfl⟩
       ·exact ⟨(fun h=>by cases h),(fun h=>by simp at h)⟩
     ·exact Jpm l P N n _
structure Kdv (y:FG) (n:Nat) (F:List Jf) (G:List Int) (X:List Je):Prop where
 asc:Jgb F
 mem:∀ z,z∈F↔z∈y.flank
 ascg:Jb6 G
 memg:∀ z,z∈G↔z∈y.guards
 gaps:X=y.gaps
 lenF:F.length<=n
section
variable {l:Ja} (hs:Sm l) (hl:OkL l) {r:Ji} (hr:Jhi r)
include hs hl hr
theorem Jyv(E:List Je)(hE:E.length<=900) :
  Is (Jq (Gj l r E) (0,([]:List Jf),([]:List Int),([]:List Je))) fun o=>∃ F G X,o=.inl (F,G,X)/\Kdv (Ja8 l (Pk r) (Jjj r) E fg0) E.length F G X:=by
 refine Is.loop (mk:=fun (i:Nat) (m:List Jf×List Int×List Je)=>((i:Int),m.1,m.2.1,m.2.2)) E.length (fun i m=>Kdv (Ja8 l (Pk r) (Jjj r) (E.take i) fg0) i m.1 m.2.1 m.2.2) ([],[],[]) ⟨List.Pairwise.nil,fun z=>by simp [Ja8,fg0],List.Pairwise.nil,fun z=>by simp [Ja8,fg0],by simp [Ja8,fg0],by simp⟩ ?_ ?_
 ·rintro i ⟨F,G,X⟩ hi hI;obtain ⟨e,he⟩:∃ e,E[i]? = some e:=⟨_,aB hi⟩
  have e0:decide ((i:Int)<((E.length:Nat):Int))=true:=decide_eq_true oG;have hy:=Jjt l (Pk r) (Jjj r) (E.take i) fg0 0 ⟨by simp [fg0],by simp [fg0],by simp [fg0]⟩;have hok:=Jtm hl (Pk r) (Jjj r) (E.take i) fg0 ⟨by simp [fg0],by simp [fg0],by simp [fg0]⟩;rw [aU] at hy;rw [Yg he,Jh7];generalize Ja8 l (Pk r) (Jjj r) (E.take i) fg0=y at hy hok hI ⊢;obtain ⟨a1,a2,a3,a4,a5,a6⟩:=hI;simp only at a1 a2 a3 a4 a5 a6;subst a5;have hGl:G.length<=y.guards.length:=Jw7 (a3.imp fun {x y} h=>by omega) fun x hx=>(a4 x).1 hx;have hg1:=hy.guards;have hx1:=hy.gaps;have hS:=Jk9 hs hl (Jg3 hr (x:=⟨F,G,y.gaps⟩) ⟨by simp only; omega,by simp only; omega,by simp only; omega⟩) e;rw [Jvk] at hS;have hneed:Jds (Jjj r) ⟨F,G,y.gaps⟩=Jds (Jjj r) y:=by
   funext z;simp only [Jds,Jmt];congr 1;exact decide_eq_decide.2 (a2 z)
  rw [hneed] at hS;have hpass:Pk (Jir r ⟨F,G,y.gaps⟩)=Pk r:=rfl;rw [hpass] at hS;simp only [Jir] at hS;unfold Gj;simp only [e0,cond_true,Qm he,aA,hS];simp only [Ja8];have hsr:=Jrh hl (Pk r) (Jds (Jjj r) y) 4 e;have hfa:=Jpm l (Pk r) (Jds (Jjj r) y) 4 e;have hnew:=Jsm hok e hsr;generalize Jhf l (Pk r) (Jds (Jjj r) y) 4 e=t at hsr hfa hnew;refine Is.onInl (θ:=fun o=>∃ F' G' X',o=.inl (F',G',X')/\Kdv (Jd5 y e t) (i+1) F' G' X') ?_ (fun v hv=>?_) (fun b hb=>by obtain ⟨_,_,_,hb,_⟩:=hb; cases hb)
  ·cases h1:t.2.2 with
   | false=>
    have ht:=hfa.1 h1;subst ht;simp only [cL,cond_true];refine Is.onInl (θ:=fun o=>o=.inl (y.gaps++[e])) ?_ (fun v hv=>?_) (fun b hb=>by cases hb)
    ·refine Is.bind (Is.app (by simp only [aE,aN,Jx,Enc.b]; omega)) fun M hM=>?_;subst hM; exact Is.val rfl
    cases hv;simp only [z0,decide_true,aY,cond_false,onInl,Wk,aA,show decide ((0:Int) <= -1)=false from rfl];refine Is.val ⟨_,_,_,rfl, ?_⟩;unfold Jd5;simp only [if_true];exact ⟨a1,a2,a3,a4,rfl,by omega⟩
   | true=>
    simp only [aY,cond_false,onInl,Wk,aA]
    by_cases h2:0<=t.2.1
    ·have hz:=hfa.2 h2;have hp0:decide (t.1.Pos=0)=true:=by rw [hz]; rfl
     obtain ⟨M,q1,q2,q3⟩:=Jnc G t.2.1 a3 oG;simp only [hp0,aY,cond_false,aA,decide_eq_true h2,cond_true,q1];refine Is.val ⟨_,_,_,rfl, ?_⟩;unfold Jd5;simp only [h1,Bool.true_eq_false,if_false,h2,if_true];exact ⟨a1,a2,q2,fun z=>by rw [q3,a4]; simp,rfl,by omega⟩
    ·have hd2:decide (0<=t.2.1)=false:=decide_eq_false h2
     by_cases h3:t.1=z0
     ·have hp0:decide (t.1.Pos=0)=true:=by rw [h3]; rfl
      simp only [hp0,aY,cond_false,aA,hd2];refine Is.val ⟨_,_,_,rfl, ?_⟩;unfold Jd5;simp only [h1,Bool.true_eq_false,if_false,h2,h3,if_true];exact ⟨a1,a2,a3,a4,rfl,by omega⟩
     ·have hset:=hsr.set h3;have hp0:decide (t.1.Pos=0)=false:=decide_eq_false (by have:=hset.2.2.1; omega);have hst:Jd5 y e t=⟨y.flank++[t.1],y.guards,y.gaps⟩:=by
       unfold Jd5;simp only [h1,Bool.true_eq_false,if_false,h2,h3]
      rw [hst] at hnew ⊢;have hne:t.1∈F\/∀ z∈F,z.El≠t.1.El:=by
       by_cases hin:t.1∈F
       ·exact .inl hin
       ·refine .inr fun z hz ez=>hin ?_;have:=hnew.one z (by simp [(a2 z).1 hz]) t.1 sG ez;rw [<- this]; exact hz
      obtain ⟨M,q1,q2,q3,q4⟩:=Jrk F t.1 a1 hne oG;simp only [hp0,cL,cond_true,q1,aA,hd2,cond_false];refine Is.val ⟨_,_,_,rfl, ?_⟩;exact ⟨q2,fun z=>by rw [q3,a2]; simp,a3,a4,rfl,by omega⟩
  ·obtain ⟨F',G',X',hv,hR⟩:=hv;cases hv;exact Is.val ⟨(F',G',X'),by rw [Fz oG],hR⟩
 ·rintro ⟨F,G,X⟩ hI;unfold Gj;have e0:decide (((E.length:Nat):Int)<((E.length:Nat):Int))=false:=decide_eq_false oG;simp only [e0,cond_false];rw [bA] at hI;exact Is.val ⟨F,G,X,rfl,hI⟩
theorem Jog(hp:r.Path.length<=40)(ho:r.Over.length<=40):Hs l r=some (Kc7 l r):=by
 have hel:(Fl l (r.Path++r.Over)).length<=900:=by
  have:=Xd l (r.Path++r.Over);rw [aM] at this; omega
 obtain ⟨o,q1,F,G,X,rfl,hR⟩:=Jyv hs hl hr (Fl l (r.Path++r.Over)) hel;have hS:=Jmk hl (Jg3 hr (x:=fg0) ⟨by simp [fg0],by simp [fg0],by simp [fg0]⟩);simp only [Jir,fg0] at hS;unfold Hs;rw [hS,aA,q1];simp only [onInl,Wk,aA];have hF:F=sF (Jns l r).flank:=hR.asc.asc.one (Kfg _) fun z=>by rw [Kfc]; exact hR.mem z
 have hG:G=sGq (Jns l r).guards:=hR.ascg.one (Ke6 _) fun z=>by rw [Keu]; exact hR.memg z
 rw [hF,hG,hR.gaps]
 rfl
end
theorem Jsg{l:Ja}(hj:l.Joints.length<=1048576){r:Ji}(hr:r.Sections.length<=1048576)(x:Kj×Bool)(s:Bool×Je×List Jb)(h:s.2.2.length<=12) :
  Is (Oe l r x s) fun o=>match o with|.inl t=>t.2.2.length<=12/\12 - t.2.2.length<12 - s.2.2.length|.inr o=>∃ v,o=.inl v/\v.length<=12:=by
 obtain ⟨b,e,o⟩:=s;dsimp only at h;unfold Oe;dsimp only;refine Is.bind (φ:=fun _=>True) (Is.cond (fun _=>by rw [Jdr l o oG]; exact Is.val trivial) fun _=>Is.val trivial) fun b38 _=>?_;refine Is.bind (φ:=fun c=>c=true->o.length<12) (Is.cond (fun _=>Is.val fun e=>by have:=of_decide_eq_true e; omega) fun _=>Is.val fun e=>by cases e) fun b40 h40=>?_;refine Is.bind (φ:=fun c=>c=true->o.length<12) (Is.cond (fun hb=>?_) fun _=>Is.val fun e=>by cases e) fun b41 h41=>?_
 ·exact Is.bind (Is.eq (Juy l (ovR r o [] []) o e.El oG hr)) fun r42 _=>Is.val fun _=>h40 hb
 ·refine Is.cond (fun hb=>?_) fun _=>Is.val ⟨_,rfl,h⟩;have hlt:=h41 hb;rw [Ja2,aA];refine Is.ite Qb (fun _=>Is.val ⟨_,rfl,h⟩) fun hne=>?_;obtain ⟨y,hy⟩:∃ y,(Fx l e)[0]? = some y:=⟨_,aB oG⟩
  rw [show ixO (Fx l e) 0=some y from Qm hy];simp only [aA];refine Is.bind (Is.app (by simp only [aE,aN,Jx,Enc.b]; omega)) fun M hM=>?_;subst hM;rw [Rh hj];exact Is.val ⟨by simp; omega,by simp; omega⟩
theorem Jok{l:Ja}(hj:l.Joints.length<=1048576){r:Ji}(hr:r.Sections.length<=1048576):Is (Gv l r) fun r'=>∃ o,o.length<=12/\r'=ovR r o (Jkt l o) (Jb1 l o):=by
 unfold Gv;have e0:Hp l (Ji.mk r.Name r.Entry r.Exit r.Path r.Points r.Sections r.Approach r.Length [] [] [] r.Flank r.Guards r.Gaps)=some (Kar l r):=Joh l (ovR r [] [] []);rw [e0,aA];refine Is.cond (fun _=>Is.val ⟨[],by simp,by rw [Jzh]; rfl⟩) fun _=>?_;rw [Vb hj,aA];refine Is.onInl (θ:=fun o=>∃ v,o=.inl v/\v.length<=12) (Is.wf (fun s=>s.2.2.length<=12) (fun s=>12 - s.2.2.length) (fun s hs=>(Jsg hj hr _ s hs).mono fun o ho=>by cases o <;> exact ho) _ _ (aI _) sG) ?_ fun b hb=>by obtain ⟨_,hb,_⟩:=hb; cases hb
 rintro v ⟨w,e,hw⟩;cases e;rw [Ja5 l v oG,Pb l v oG];exact Is.val ⟨v,hw,rfl⟩
structure TbR (l:Ja) (rt:Ji):Prop where
 p0:0<rt.Path.length
 p1:rt.Path.length<=12
 ln:rt.Length=w64 (Bt l rt.Path)
 vp:Sx l rt.Path
 few:Jhi rt
 se:rt.Sections=Jb1 l rt.Path
theorem Jw4{l:Ja}{r:Ji}(h:r∈Jk6 l):r.Length=w64 (Bt l r.Path)/\Sx l r.Path:=by
 unfold Jk6 at h;rw [dO] at h;obtain ⟨i,hi,h⟩:=h;unfold Jec at h;split at h
 ·split at h
  ·rw [bT] at h;obtain ⟨k,hk,rfl⟩:=h;rw [List.mem_range] at hk;have hg:=Jft hk;exact ⟨rfl,(Jbj (aD hg)).2.2.1⟩
  ·cases h
 ·cases h
theorem Kfl{l:Ja}(h:Sm l)(hO:OkL l){r:Ji}(hr:r∈Jk6 l):Is (Gv l r) fun r1=>Is (Hs l r1) fun r2=>TbR l r2:=by
 have hk:=Kbx hr;have hp:=hk.p1;have h1:=Jna l r.Path;have h2:=Jmv l r.Path;refine (Jok h.jo (r:=r) (by rw [hk.se]; omega)).mono fun r1 hr1=>?_;obtain ⟨o,o1,rfl⟩:=hr1;have h3:=Jna l o;have h4:=Jmv l o;have hF:Jhi (ovR r o (Jkt l o) (Jb1 l o)):=⟨by show r.Path.length<=1000; omega,by show o.length<=1000; omega,by show r.Points.length<=1000; rw [hk.po]; omega,by show (Jkt l o).length<=1000; omega,by show r.Flank.length<=1000; rw [hk.fl]; simp,
  by show r.Sections.length<=1000; rw [hk.se]; omega,by show (Jb1 l o).length<=1000; omega,by show r.Guards.length<=1000; rw [hk.gu]; simp,by show r.Gaps.length<=1000; rw [hk.ga]; simp⟩
 rw [Jog h hO hF (by show r.Path.length<=40; omega) (by show o.length<=40; omega)];exact Is.val ⟨hk.p0,hp,(Jw4 hr).1,(Jw4 hr).2,Jxv l hF (by show r.Path.length<=40; omega) (by show o.length<=40; omega),hk.se⟩
theorem Jkv{l:Ja}(h:l.Elements.length<=1048576):Is (Dk l) fun L=>L.length<=l.Elements.length:=by
 unfold Dk;refine Is.fold (L:=l.Elements) (mk:=fun i (o:List Int)=>(i,o)) (fun i o=>o.length<=i) [] oG sG (fun i x o hx hi hI=>?_) fun o hI=>?_
 ·unfold Hg;refine Is.inb hi ?_;refine Is.onInl (θ:=fun r=>∃ v,r=.inl v/\v.length<=i+1) (Is.at hx (Is.cond (fun _=>?_) fun _=>Is.val ⟨_,rfl,by omega⟩)) ?_ fun b hb=>by obtain ⟨_,hb,_⟩:=hb; cases hb
  ·refine Is.bind (Is.app (by simp only [aE,aN,Jx,Enc.b]; omega)) fun M hM=>?_;subst hM;exact Is.val ⟨_,rfl,by simp; omega⟩
  ·rintro v ⟨w,e,hw⟩;cases e;exact Is.val ⟨_,rfl,hw⟩
 ·unfold Hg;exact Is.oub (Is.val (Is.val hI))
theorem Jmy{l:Ja}(h:Sm l):Is (Zo l) fun r=>r.2=0->r.1.Routes.length<=48/\r.1.Points.length<=1048576/\r.1.Homes.length<=1048576/\∀ rt∈r.1.Routes,TbR l rt:=by
 unfold Zo;rw [Kan h,aA]
 by_cases hc:chk l=0
 ·have hO:=(Jym l).1 hc;rw [if_pos hc]
  by_cases h48:48<(Jk6 l).length
  ·rw [if_pos h48];exact Is.cond (fun _=>Is.val fun e=>by cases e) fun e=>by simp at e
  ·rw [if_neg h48];refine Is.cond (fun e=>by simp at e) fun _=>?_;have hel:=h.el;refine (Jkv hel).bind fun P hP=>?_;refine Is.fold (L:=Jk6 l) (mk:=fun i (o:List Ji)=>(i,o)) (fun i o=>o.length=i/\∀ rt∈o,TbR l rt) [] oG ⟨rfl,by simp⟩ (fun i x o hx hi hI=>?_) fun o hI=>?_
   ·unfold Lz;dsimp only;refine Is.inb hi (Is.at hx ?_);refine (Kfl h hO (aD hx)).bind fun r1 h1=>h1.bind fun r2 h2=>?_;refine Is.bind (Is.app (by have:=hI.1; simp only [aE,aN,Jx,Enc.b]; omega)) fun M hM=>?_;subst hM;refine Is.val ⟨_,rfl,by simp [hI.1],fun rt hrt=>?_⟩;rcases aW.1 hrt with q|q
    ·exact hI.2 rt q
    ·simp at q; subst q; exact h2
   ·unfold Lz;dsimp only;refine Is.oub (Is.val ?_);refine Is.fold (L:=P) (mk:=fun i (o:List Int)=>(i,o)) (fun i o=>o.length=i) [] oG rfl (fun i x z hx hi hz=>?_) fun z hz=>?_
    ·unfold Ly;refine Is.inb hi (Is.at hx ?_);rw [Eo,aA];refine Is.bind (Is.app (by simp only [aE,aN,Jx,Enc.b]; omega)) fun M hM=>?_;subst hM;exact Is.val ⟨_,rfl,by simp [hz]⟩
    ·unfold Ly;refine Is.oub (Is.val (Is.val fun _=>⟨?_, ?_, ?_,hI.2⟩))
     ·show o.length<=48; have:=hI.1; omega
     ·show P.length<=1048576; omega
     ·show z.length<=1048576; omega
 ·rw [if_neg hc];refine Is.cond (fun _=>Is.val fun e=>absurd e hc) fun e=>?_;simp [hc] at e
theorem Kfn(x y:Jb):Iz x y=true↔x=y:=by cases x; cases y; simp [Iz]
theorem Jzx{a b:List Jb}(h:a.length<=1000):Is (Wl a b) fun r=>r=true↔a=b:=Jef Kfn oG fun _=>rfl
theorem Kac{a b:List Jf}(h:a.length<=1000):Is (Co a b) fun r=>r=true↔a=b:=Jef Jpn oG fun _=>rfl
theorem Jyj{a b:List Int}(h:a.length<=1000):Is (Hf a b) fun r=>r=true↔a=b:=Jef (eqf:=fun x y=>decide (x=y)) (fun _ _=>Qb) oG fun _=>rfl
theorem Jz0{a b:List Int}(h:a.length<=1048576):Is (Ue a b) fun r=>r=true↔a=b:=Jef (eqf:=fun x y=>decide (x=y)) (fun _ _=>Qb) h fun _=>rfl
theorem Kf5{a b:List Je}(h:a.length<=1000):Is (Ha a b) fun r=>r=true↔a=b:=Jef Mo oG fun _=>rfl
theorem Jyr{b:Bool}{y:Option Bool}{p q:Prop}(hb:b=true->p)(hy:Is y fun c=>c=true↔q):Is (bif b then y else some false) fun c=>c=true->p/\q :=
 Is.cond (fun h=>hy.mono fun _ hc e=>⟨hb h,hc.1 e⟩) fun _=>Is.val fun e=>by cases e
theorem Jx9{a b:Ji}(h:Jhi a):Is (Nj a b) fun r=>r=true->a=b:=by
 unfold Nj Cr Wb Zz;simp only [Jl7];refine Is.cond (fun _=>Is.val fun e=>by cases e) fun h0=>?_;simp only [dI,eE,decide_eq_true_eq] at h0;refine (Jzx h.path).bind fun r1 h1=>?_;refine Is.bind (φ:=fun c=>c=false->a.Path=b.Path/\a.Points=b.Points) ?_ fun b2 h2=>?_
 ·cases r1 with
  | false=>exact Is.val fun e=>by cases e
  | true=>exact (Kac h.pts).bind fun r3 h3=>Is.val fun e=>⟨h1.1 rfl,h3.1 (by simpa using e)⟩
 refine Is.bind (φ:=fun c=>c=false->(a.Path=b.Path/\a.Points=b.Points)/\a.Sections=b.Sections) ?_ fun b4 h4=>?_
 ·cases b2 with
  | true=>exact Is.val fun e=>by cases e
  | false=>exact (Jyj h.secs).bind fun r3 h3=>Is.val fun e=>⟨h2 rfl,h3.1 (by simpa using e)⟩
 refine Is.cond (fun _=>Is.val fun e=>by cases e) fun hb4=>?_;refine (Jzx h.over).bind fun r6 h6=>?_;refine (Jyr h6.1 (Kac h.ops)).bind fun b7 h7=>?_;refine (Jyr h7 (Jyj h.osecs)).bind fun b9 h9=>?_;refine (Jyr h9 (Kac h.flank)).bind fun b11 h11=>?_;refine (Jyr h11 (Jyj h.guards)).bind fun b13 h13=>?_;refine (Jyr h13 (Kf5 h.gaps)).mono fun b15 h15=>fun e=>?_;have k:=h15 e;have k4:=h4 hb4;cases a; cases b;simp only at h0 k k4;simp only [Ji.mk.injEq];exact ⟨h0.1.1.1.1,h0.1.1.1.2,h0.1.1.2,k4.1.1,k4.1.2,k4.2,h0.1.2,h0.2,k.1.1.1.1.1,k.1.1.1.1.2,k.1.1.1.2,k.1.1.2,k.1.2,k.2⟩
theorem Jxw{x t:Jw}(hx:∀ rt∈x.Routes,Jhi rt)(hl:x.Routes.length<=48)(h2:x.Points.length<=1048576)(h3:x.Homes.length<=1048576):Is (Oi x t) fun r=>r=true->x.Routes=t.Routes:=by
 unfold Oi;refine Is.bind (φ:=fun c=>c=false->x.Routes.length=t.Routes.length) ?_ fun b1 h1=>?_
 ·refine Is.ifn (p:=x.Routes.length=t.Routes.length) (by rw [decide_eq_true_iff]; omega) (fun _=>Is.val fun e=>by cases e) fun hl=>?_;exact (Jz0 h2).bind fun r _=>Is.val fun _=>hl
 refine Is.bind (φ:=fun c=>c=false->x.Routes.length=t.Routes.length) ?_ fun b3 h3'=>?_
 ·refine Is.cond (fun _=>Is.val fun e=>by cases e) fun hb=>?_;exact (Jz0 h3).bind fun r _=>Is.val fun _=>h1 hb
 refine Is.cond (fun _=>Is.val fun e=>by cases e) fun hb=>?_;simp only [dI] at hb;have hlen:=h3' hb.1.1;refine Is.all (L:=x.Routes) (fun i y=>t.Routes[i]? = some y) () oG (fun i y hy hi _=>?_) (by simp [Ns]) fun hn=>Is.val fun _=>?_
 ·unfold Ns;have hg:t.Routes[i]? = some t.Routes[i]:=aB oG;refine Is.inb hi (Is.at hy (Is.at hg ?_));refine (Jx9 (hx y (aD hy))).bind fun r hr=>?_;cases r with
  | false=>exact Is.val fun e=>by cases e
  | true=>exact Is.val ⟨rfl,by rw [hg,hr rfl]⟩
 ·apply dD;intro i;cases hy:x.Routes[i]? with
  | some y=>exact (hn i y hy).symm
  | none=>exact (bO (by have:=List.getElem?_eq_none_iff.1 hy; omega)).symm
structure Mod (k:Jd) (list:List Jy):Prop where
 st:k.Steps.length<=100
 li:list.length<=100
 ro:k.Routes.length<=100
 sa:k.Starts.length<=100
 en:k.Ends.length<=100
 dn:k.Done.length<=100
structure Fin (k:Jd):Prop where
 o:-1073741824<=k.Origin/\k.Origin<=1073741824
 a:-1073741824<=k.At/\k.At<=1073741824
theorem Jby{α:Type}[Enc α]{L:List α}(h:L.length * Enc.b α<=Jx/\L.length<=Jx):Qd ([]:List α) L=some L:=by
 unfold Qd;rw [if_pos (by simpa using h)]; rfl
theorem Jzd(o:Nat){n i:Nat}(h:i<n):Vz o n (i:Int)=some (o+i):=by
 unfold Vz;rw [if_pos oG]; rfl
theorem Jxb{α:Type}{L:List α}{n j:Nat}(h:L.length=n):Uy L n j=L[j]?:=by
 unfold Uy;rw [if_pos h]
theorem Kfx{κ ν:Type}[Key κ][Enc ν](m:List (κ×ν))(k j:κ)(v:ν):Wx (Fy k v m) j=if j=k then some v else Wx m j:=Kc4 k v j m
structure Jvr (k:Jd):Prop where
 steps:k.Steps.length<=1000
 routes:k.Routes.length<=1000
 starts:k.Starts.length<=1000
 ends:k.Ends.length<=1000
 done:k.Done.length<=1000
structure Jkx (c:Jj):Prop where
 tr:c.Tracks.length<=1000
 se:c.Sessions.length<=1000
 each:∀ k∈c.Tracks,Jvr k
theorem Kat{L:List Jb}(h:L.length<=1000):Kl L=some L:=by
 unfold Kl; rw [Jby (by simp only [Jx,Enc.b]; omega)]; rfl
theorem Je5{L:List Int}(h:L.length<=1000):Jt L=some L:=by
 unfold Jt; rw [Jby (by simp only [Jx,Enc.b]; omega)]; rfl
theorem Kbq{L:List Jk}(h:L.length<=1000):Qf L=some L:=by
 unfold Qf; rw [Jby (by simp only [Jx,Enc.b]; omega)]; rfl
def tr0 : Jd:=Jd.mk 0 0 0 0 [] [] [] [] [] 0 0 0 0 0
noncomputable def Jri{B:Type}(T Z:List Jd):(Int×(List Jd))->Option ((Int×(List Jd))⊕((List Jd)⊕B)):=fun (x44,x45)=>
 bif decide (x44<((T.length:Nat):Int)) then (
  (ixO T x44).bind fun x55=>
  (Kl x55.Steps).bind fun r56=>
  (Jt x55.Routes).bind fun r57=>
  (Jt x55.Starts).bind fun r58=>
  (Jt x55.Ends).bind fun r59=>
  (Jt x55.Done).bind fun r60=>
  (Vz 0 (((Z:(List Jd)).map cellsOf).length) x44).bind fun j61=>
  (Uy x45 (((Z:(List Jd)).map cellsOf).length) j61).bind fun x62=>
  some (.inl (w64 (x44+1),(x45.set j61 (Jd.mk x55.Id x55.Origin x55.End x55.At r56 r57 r58 r59 r60 x55.Min x55.Sent x55.Accepted x55.Cut x55.CutSeq))))
 ) else (
  some (.inr (.inl x45))
 )
theorem Kcq{B:Type}{T:List Jd}(hT:T.length<=1000)(hf:∀ k∈T,Jvr k):Jq (Jri (B:=B) T (List.replicate T.length tr0)) (0,List.replicate T.length tr0)=some (.inl T):=by
 have:Is (Jq (Jri (B:=B) T (List.replicate T.length tr0)) (0,List.replicate T.length tr0)) fun o=>o=.inl T:=by
  refine Is.loop (mk:=fun k (s:List Jd)=>((k:Int),s)) T.length (fun k s=>s.length=T.length/\∀ j,j<k->s[j]? = T[j]?) (List.replicate T.length tr0) ⟨by simp,fun j hj=>by omega⟩ (fun k s hk hI=>?_) (fun s hI=>?_)
  ·have hx:=aB hk;have hm:=hf _ (aD hx);generalize T[k]=x at hx hm;have hN:(((List.replicate T.length tr0:List Jd).map cellsOf).length)=T.length:=by simp
   have hxi:Vz 0 (((List.replicate T.length tr0:List Jd).map cellsOf).length) (k:Int)=some k:=by rw [Jzd 0 (by rw [hN]; exact hk),aV]
   have hld:∃ y,Uy s (((List.replicate T.length tr0:List Jd).map cellsOf).length) k=some y:=⟨s[k],by rw [Jxb (by rw [hN,hI.1])]; exact aB oG⟩
   obtain ⟨y,hld⟩:=hld;simp only [Jri];rw [decide_eq_true oG,cond_true];refine Is.at hx ?_;rw [Kat hm.steps,aA,Je5 hm.routes,aA,Je5 hm.starts,aA,Je5 hm.ends,aA,Je5 hm.done,aA,hxi,aA,hld,aA];refine Is.val ⟨_,by rw [Fz oG],by rw [eD]; exact hI.1,fun j hj=>?_⟩
   by_cases e:j=k
   ·subst e;rw [List.getElem?_set_self oG,hx]
   ·rw [List.getElem?_set_ne oG];exact hI.2 j oG
  ·simp only [Jri];rw [decide_eq_false oG,cond_false];refine Is.val ?_;congr 1;congr 1;apply dD;intro j
   by_cases hj:j<T.length
   ·exact hI.2 j hj
   ·rw [bO oG,bO oG]
 obtain ⟨o,h1,rfl⟩:=this;exact h1
theorem Keq{T:List Jd}(hT:T.length<=1000):Jtv ((T.length:Nat):Int) ((T.length:Nat):Int) 192 tr0=some (List.replicate T.length tr0):=by
 unfold Jtv;rw [if_pos ⟨by omega,by omega,by simp only [Jx]; omega,by simp only [Jx]; omega⟩]
 rfl
def Bv(T:List Jd)(id:Int):Option Nat:=T.findIdx? fun k=>decide (k.Id=id)
theorem Jxn{T:List Jd}{id:Int}{n:Nat}(h:Bv T id=some n):n<T.length:=by
 unfold Bv at h;exact (List.findIdx?_eq_some_iff_findIdx_eq.1 h).1
theorem Jus{T:List Jd}(hT:T.length<=1000):Is (Cu T) fun m=>∀ id,Wx m id=(Bv T id).map fun (n:Nat)=>(n:Int):=by
 unfold Cu;refine Is.onInl (θ:=fun o=>∃ m,o=.inl m/\∀ id,Wx m id=(Bv T id).map fun (n:Nat)=>(n:Int)) ?_ (fun v hv=>by obtain ⟨m,e,h⟩:=hv; cases e; exact Is.val h) (fun b hb=>by obtain ⟨_,e,_⟩:=hb; cases e);refine Is.loop (mk:=fun k (s:List (Int×Int))=>((k:Int),s)) T.length (fun k m=>∀ id,Wx m id=(Bv (T.take k) id).map fun (n:Nat)=>(n:Int)) [] (fun id=>rfl) (fun k m hk hI=>?_) (fun m hI=>?_)
 ·have hx:=aB hk;generalize T[k]=x at hx;have ht:∀ id,Bv (T.take (k+1)) id=(Bv (T.take k) id).or (if x.Id=id then some k else none):=fun id=>by
   unfold Bv;rw [Lb hx,List.findIdx?_append,aU,Nat.min_eq_left oG];congr 1
   by_cases e:x.Id=id
   ·simp [e]
   ·simp [e]
  simp only [Lh];rw [decide_eq_true oG,cond_true];refine Is.onInl (θ:=fun o=>∃ m',o=.inl m'/\∀ id,Wx m' id=(Bv (T.take (k+1)) id).map fun (n:Nat)=>(n:Int)) (Is.at hx ?_) (fun v hv=>?_) (fun b hb=>by obtain ⟨_,e,_⟩:=hb; cases e)
  ·refine Is.cond (fun hc=>Is.val ⟨_,rfl,fun id=>?_⟩) fun hc=>Is.val ⟨_,rfl,fun id=>?_⟩
   ·rw [hI] at hc;rw [Kfx,hI,ht]
    by_cases e:id=x.Id
    ·subst e;rw [if_pos rfl,if_pos rfl];cases h:Bv (T.take k) x.Id with
     | none=>rfl
     | some n=>rw [h] at hc; cases hc
    ·rw [if_neg e,if_neg (fun q=>e q.symm)];cases Bv (T.take k) id <;> rfl
   ·rw [hI] at hc;rw [hI,ht]
    by_cases e:x.Id=id
    ·subst e;cases h:Bv (T.take k) x.Id with
     | none=>rw [h] at hc; cases hc
     | some n=>rfl
    ·rw [if_neg e];cases Bv (T.take k) id <;> rfl
  ·obtain ⟨m',e,h⟩:=hv;cases e;exact Is.val ⟨_,by rw [Fz oG],h⟩
 ·simp only [Lh];rw [decide_eq_false oG,cond_false];refine Is.val ⟨_,rfl,fun id=>?_⟩;rw [hI,bA]
theorem Ka7{c:Jj}(hT:c.Tracks.length<=1000)(id:Int):Eu c id=some (match Bv c.Tracks id with|some n=>(n:Int)|none=> -1):=by
 have:Is (Eu c id) fun r=>r=(match Bv c.Tracks id with|some n=>(n:Int)|none=> -1):=by
  unfold Eu;refine Is.all (L:=c.Tracks) (fun _ x=>x.Id≠id) () oG (fun i x hx hi hI=>?_) (by simp [Lk]) (fun hn=>Is.val ?_)
  ·unfold Lk;refine Is.inb hi (Is.at hx (Is.cond (fun hc=>Is.val ?_) fun hc=>Is.val ⟨rfl,of_decide_eq_false hc⟩));have hc:=of_decide_eq_true hc;have:Bv c.Tracks id=some i:=by
    unfold Bv;rw [dK];refine ⟨hi, ?_,fun j hj=>?_⟩
    ·rw [aB hi] at hx; cases hx;exact decide_eq_true hc
    ·rw [eA,decide_eq_false_iff_not];exact hI j _ hj (aB oG)
   rw [this]
  ·have:Bv c.Tracks id=none:=by
    unfold Bv;rw [List.findIdx?_eq_none_iff];intro x hx;obtain ⟨i,hi⟩:=aX hx;exact decide_eq_false (hn i x hi)
   rw [this]
 obtain ⟨r,h1,rfl⟩:=this;exact h1
theorem Kbr{c:Jj}(h1:c.Tracks.length<=1000)(h2:c.Sessions.length<=1000){i:Nat}(hi1:i<c.Tracks.length)(hi2:i<c.Sessions.length)(k:Jd)(s:Jk) :
  Oy c (i:Int) k s=some ⟨c.Tracks.set i k,c.Sessions.set i s⟩:=by
 unfold Oy;rw [Jby (by simp only [Jx,Enc.b]; omega),aA,Jby (by simp only [Jx,Enc.b]; omega),aA];have n1:(((c.Tracks:List Jd).map cellsOf).length)=c.Tracks.length:=aS _;have n2:(((c.Sessions:List Jk).map cellsOf).length)=c.Sessions.length:=aS _;rw [Jzd 0 (by rw [n1]; exact hi1),aA,Jxb n1.symm,aV,aB hi1,aA,Jzd 0 (by rw [n2]; exact hi2),aA,Jxb n2.symm,aV,aB hi2,aA]
theorem Jvp : Il=some true:=by kernel_rfl
theorem Kf0(x y:Jb):Iz x y=true↔x=y:=by cases x; cases y; simp [Iz]
theorem Kfm(x:Jk):Pu x x=true:=by simp [Pu]
theorem Jnb{L:List Jb}(h:L.length<=1000):Wl L L=some true:=by
 have:Is (Wl L L) fun r=>r=true↔L=L:=Jef Kf0 oG fun _=>rfl;obtain ⟨r,h1,h2⟩:=this;rw [h1,h2.2 rfl]
theorem Rc{L:List Int}(h:L.length<=1000):Ue L L=some true:=by
 have:Is (Ue L L) fun r=>r=true↔L=L:=Jef (eqf:=fun x y=>decide (x=y)) (fun _ _=>Qb) oG fun _=>rfl;obtain ⟨r,h1,h2⟩:=this;rw [h1,h2.2 rfl]
theorem Jsv{k:Jd}(h:Jvr k):Oa k k=some true:=by
 unfold Oa;simp only [decide_true,aY,Bool.or_false,cond_false,Jnb h.steps,Rc h.routes,Rc h.starts,Rc h.ends,Rc h.done,aA,cond_true]
theorem Jtf{c:Jj}(h:Jkx c):He c c=some true:=by
 have:Is (He c c) fun b=>b=true:=by
  unfold He;simp only [decide_true,aY,cond_false,aA];have h1:=h.tr;have h2:=h.se;refine Is.all (L:=c.Tracks) (fun _ _=>True) () oG (fun i x hx hi _=>?_) (by simp [Nx]) (fun _=>?_)
  ·unfold Nx;refine Is.inb hi (Is.at hx (Is.at hx ?_));rw [Jsv (h.each x (aD hx))];exact Is.val ⟨rfl,trivial⟩
  ·refine Is.all (L:=c.Sessions) (fun _ _=>True) () oG (fun i x hx hi _=>?_) (by simp [Oz]) (fun _=>Is.val rfl);unfold Oz;refine Is.inb hi (Is.at hx (Is.at hx ?_));rw [Kfm];exact Is.val ⟨rfl,trivial⟩
 obtain ⟨b,h1,rfl⟩:=this;exact h1
theorem Kah{c:Jj}(h1:c.Tracks.length<=1048576):Is (Sh c) fun b=>b=true->Jkx c/\c.Tracks.length<=10/\c.Sessions.length<=10/\∀ k∈c.Tracks,k.Steps.length<=100/\k.Routes.length<=60/\k.Starts.length<=60/\k.Ends.length<=60/\k.Done.length<=60:=by
 unfold Sh;refine Is.all (L:=c.Tracks) (fun _ k=>k.Steps.length<=100/\k.Routes.length<=60/\k.Starts.length<=60/\k.Ends.length<=60/\k.Done.length<=60) () oG (fun i x hx hi _=>?_) (by simp [Rb]) (fun hn=>?_)
 ·unfold Rb;refine Is.inb hi (Is.at hx ?_);refine Is.bind (Is.or Qb fun _=>Is.val Qb) fun b1 hb1=>?_;refine Is.bind (Is.or hb1 fun _=>Is.val Qb) fun b2 hb2=>?_;refine Is.bind (Is.or hb2 fun _=>Is.val Qb) fun b3 hb3=>?_;refine Is.bind (Is.or hb3 fun _=>Is.val Qb) fun b4 hb4=>?_;refine Is.ite hb4 (fun _=>Is.val fun q=>by cases q) fun hp=>Is.val ⟨rfl,by omega⟩
 ·have hall:∀ k∈c.Tracks,k.Steps.length<=100/\k.Routes.length<=60/\k.Starts.length<=60/\k.Ends.length<=60/\k.Done.length<=60:=Vo.1 hn;refine Is.bind (Is.and Qb fun _=>Is.val Qb) fun b hb=>Is.val fun q=>?_;have hb:=hb.1 q;exact ⟨⟨by omega,by omega,fun k hk=>by have:=hall k hk; exact ⟨by omega,by omega,by omega,by omega,by omega⟩⟩,by omega,by omega,hall⟩
theorem Jvd{t:Jw}(s:Ko)(h:t.Routes.length<=1048576):Is (It t s) fun b=>b=true->t.Routes.length<=50/\s.Routes.length<=50/\∀ r∈t.Routes,r.Sections.length<=30/\r.Path.length<=30:=by
 unfold It;refine Is.all (L:=t.Routes) (fun _ r=>r.Sections.length<=30/\r.Path.length<=30) () oG (fun i x hx hi _=>?_) (by simp [Lp]) (fun hn=>?_)
 ·unfold Lp;refine Is.inb hi (Is.at hx ?_);refine Is.bind (Is.or Qb fun _=>Is.val Qb) fun b1 hb1=>?_;refine Is.bind (Is.or hb1 fun _=>Is.val Qb) fun b2 hb2=>?_;refine Is.bind (Is.or hb2 fun _=>Is.val Qb) fun b3 hb3=>?_;refine Is.bind (Is.or hb3 fun _=>Is.val Qb) fun b4 hb4=>?_;refine Is.bind (Is.or hb4 fun _=>Is.val Qb) fun b5 hb5=>?_;refine Is.ite hb5 (fun _=>Is.val fun q=>by cases q) fun hp=>Is.val ⟨rfl,by omega⟩
 ·refine Is.bind (Is.and Qb fun _=>Is.val Qb) fun b1 hb1=>?_;refine Is.bind (Is.and hb1 fun _=>Is.val Qb) fun b2 hb2=>?_;refine Is.bind (Is.and hb2 fun _=>Is.val Qb) fun b3 hb3=>?_;refine Is.bind (Is.and hb3 fun _=>Is.val Qb) fun b4 hb4=>Is.val fun q=>?_;have:=hb4.1 q;exact ⟨by omega,by omega,Vo.1 hn⟩
structure Jza (x:Jv):Prop where
 rt:x.Table.Routes.length<=1048576
 tr:x.Center.Tracks.length<=1048576
theorem Ju6{x:Jv}(h:Jza x):Is (Ih x) fun b=>b=true->(Jkx x.Center/\x.Center.Tracks.length<=10/\x.Center.Sessions.length<=10/\∀ k∈x.Center.Tracks,k.Steps.length<=100/\k.Routes.length<=60/\k.Starts.length<=60/\k.Ends.length<=60/\k.Done.length<=60) /\
  (x.Table.Routes.length<=50/\x.Inter.Routes.length<=50/\∀ r∈x.Table.Routes,r.Sections.length<=30/\r.Path.length<=30)/\x.Slow.length<=20/\x.Trains.length<=10:=by
 unfold Ih;refine Is.bind (φ:=fun _=>True) ?_ fun r1 _=>?_
 ·unfold Rm;refine Is.bind (φ:=fun _=>True) (Is.cond (fun _=>Is.val trivial) fun _=>Is.val trivial) fun b1 _=>?_;refine Is.bind (φ:=fun _=>True) (Is.cond (fun _=>Is.val trivial) fun _=>Is.val trivial) fun b2 _=>?_;refine Is.bind (φ:=fun _=>True) (Is.cond (fun _=>Is.val trivial) fun _=>Is.val trivial) fun b3 _=>?_;refine Is.bind (φ:=fun _=>True) (Is.cond (fun _=>Is.val trivial) fun _=>Is.val trivial) fun b4 _=>Is.val trivial
 simp only [Jl7];refine Is.bind (φ:=fun b=>b=true->(x.Table.Routes.length<=50/\x.Inter.Routes.length<=50/\∀ r∈x.Table.Routes,r.Sections.length<=30/\r.Path.length<=30)) (Is.cond (fun _=>Jvd _ h.rt) fun _=>Is.val fun q=>by cases q) fun b2 h2=>?_;refine Is.bind (φ:=fun b=>b=true->b2=true/\x.Slow.length<=20) (Is.cond (fun q=>Is.val fun e=>⟨q,by have:=of_decide_eq_true e; omega⟩) fun _=>Is.val fun q=>by cases q) fun b4 h4=>?_;refine Is.bind (φ:=fun b=>b=true->b4=true/\x.Trains.length<=10) (Is.cond (fun q=>Is.val fun e=>⟨q,by have:=of_decide_eq_true e; omega⟩) fun _=>Is.val fun q=>by cases q) fun b5 h5=>?_;refine Is.cond (fun q=>(Kah h.tr).mono fun c hc e=>?_) fun _=>Is.val fun q=>by cases q
 obtain ⟨q5,q6⟩:=h5 q;obtain ⟨q3,q4⟩:=h4 q5;exact ⟨hc e,h2 q3,q4,q6⟩
theorem Jkx.set{c:Jj}(h:Jkx c){n:Nat}{k:Jd}(hk:Jvr k)(S:List Jk)(hS:S.length=c.Sessions.length):Jkx ⟨c.Tracks.set n k,S⟩ :=
 ⟨by show (c.Tracks.set n k).length<=1000; rw [eD]; exact h.tr,by show S.length<=1000; rw [hS]; exact h.se,fun y hy=>(List.mem_or_eq_of_mem_set hy).elim (h.each y) fun e=>e▸hk⟩
theorem Kfy : Jkx ⟨[],[]⟩:=⟨cT _,cT _,fun k hk=>by cases hk⟩
theorem Jqp(L:List Int)(e:Int)(h:L.length<=1048576):Is (Ud L e) fun b=>b=true↔e∈L:=by
 unfold Ud Ef;refine Is.bind (φ:=fun r=>0<=r↔e∈L) ?_ fun r hr=>Is.val (by rw [decide_eq_true_iff]; exact hr);refine Is.all (L:=L) (fun _ x=>e≠x) () oG (fun i x hx hi _=>?_) (by simp [Ck]) (fun hn=>Is.val (iff_of_false oG fun hm=>?_))
 ·unfold Ck;refine Is.inb hi (Is.at hx (Is.cond (fun hc=>Is.val (iff_of_true oG ?_)) fun hc=>Is.val ⟨rfl,of_decide_eq_false hc⟩));rw [of_decide_eq_true hc];exact aD hx
 ·obtain ⟨i,hi⟩:=aX hm;exact hn i e hi rfl
structure ExtP (k k':Jd) (r:Int):Prop where
 routes:k'.Routes=k.Routes++[r]
 steps:k'.Steps.length<=64
 starts:k'.Starts.length=k.Starts.length+1
 ends:k'.Ends.length=k.Ends.length+1
 done:k'.Done=k.Done
 origin:k'.Origin=k.Origin
structure Jxt (n:Nat) (k:Jd):Prop where
 steps:k.Steps.length<=100
 starts:k.Starts.length=k.Routes.length
 ends:k.Ends.length=k.Routes.length
 done:k.Done.length<=60
 rng:∀ r∈k.Routes,0<=r/\r<(n:Int)
 origin:-1073741824<=k.Origin/\k.Origin<=1073741824
def allR(T:List Jd):List Int:=T.flatMap (·.Routes)
def Kd2(s:Ko)(r:Int):Prop:=0<=r/\r<(s.Routes.length:Nat)/\∃ y,s.Routes[r.toNat]? = some y/\y.State=2
structure GInv (t:Jw) (s:Ko) (old T:List Jd):Prop where
 len:T.length=old.length
 ok:∀ k∈T,Jxt t.Routes.length k
 nd:(allR T).Nodup
 more:∀ (j:Nat) k0 k,old[j]? = some k0->T[j]? = some k->∃ ex,k.Routes=k0.Routes++ex/\∀ r∈ex,Kd2 s r
structure OffP (k k':Jd):Prop where
 routes:k'.Routes=k.Routes
 steps:k'.Steps=k.Steps
 starts:k'.Starts=k.Starts
 ends:k'.Ends=k.Ends
 done:k'.Done=k.Done
 origin:k'.Origin=k.Origin
theorem Kal{l:Ja}(h:Sm l){r:Jw×Int}(hr:Zo l=some r)(h0:r.2=0):OkL l:=by
 refine (Jym l).1 (bF fun hc=>?_);unfold Zo at hr;rw [Kan h,if_neg hc,aA] at hr;simp only at hr;rw [decide_eq_false hc] at hr;cases hr;exact hc h0
theorem Jnm{L:List Int}(hl:L.length<=1000):Is (Vl L) fun b=>b=true->∀ x∈L,-1073741824<=x/\x<=1073741824:=by
 unfold Vl;refine Is.all (L:=L) (fun _ x=> -1073741824<=x/\x<=1073741824) () oG (fun i x hx hi _=>?_) (by simp [Bq]) (fun hn=>Is.val fun _=>Vo.1 hn);unfold Bq;refine Is.inb hi (Is.at hx ?_);refine Is.cond (fun _=>Is.val fun e=>by cases e) fun hc=>Is.val ⟨rfl, ?_⟩;simp only [dI,decide_eq_false_iff_not] at hc;omega
structure PrK (l:Ja) (k:Jd):Prop where
 valid:Sx l k.Steps
 mn:-1073741824<=k.Min/\k.Min<=1073741824
theorem Jtt{l:Ja}(h:Sm l){t:Jw}(ht:t.Routes.length<=1000){k:Jd}(hs:k.Steps.length<=100)(hr:k.Routes.length<=60)(h1:k.Starts.length<=60)(h2:k.Ends.length<=60)(h3:k.Done.length<=60) :
  Is (Gs l t k) fun b=>b=true->Jxt t.Routes.length k/\PrK l k:=by
 unfold Gs;refine (Jeh l k.Steps h.jo oG).bind fun r1 hr1=>?_;refine Is.bind (φ:=fun b=>b=false->r1=true/\k.Starts.length=k.Routes.length) (Is.cond (fun _=>Is.val fun e=>by cases e) fun hv=>Is.val fun e=>by
  rw [eE,decide_eq_true_iff] at e; exact ⟨by simpa using hv,by omega⟩) fun b2 hb2=>?_
 refine Is.bind (φ:=fun b=>b=false->b2=false/\k.Ends.length=k.Routes.length) (Is.cond (fun _=>Is.val fun e=>by cases e) fun hc=>Is.val fun e=>by
  rw [eE,decide_eq_true_iff] at e; exact ⟨hc,by omega⟩) fun b3 hb3=>?_
 refine Is.bind (φ:=fun b=>b=false->b3=false/\(-1073741824<=k.Origin/\k.Origin<=1073741824)/\(-1073741824<=k.Min/\k.Min<=1073741824)) (Is.cond (fun _=>Is.val fun e=>by cases e) fun hc=>(Jnm sG).bind fun c hco=>Is.val fun e=>⟨hc,hco (by simpa using e) k.Origin sG,hco (by simpa using e) k.Min sG⟩) fun b4 hb4=>?_;refine Is.bind (φ:=fun b=>b=false->b4=false) (Is.cond (fun _=>Is.val fun e=>by cases e) fun hc=>(Jnm oG).bind fun c _=>Is.val fun _=>hc) fun b6 hb6=>?_;refine Is.bind (φ:=fun b=>b=false->b6=false) (Is.cond (fun _=>Is.val fun e=>by cases e) fun hc=>(Jnm oG).bind fun c _=>Is.val fun _=>hc) fun b8 hb8=>?_;refine Is.cond (fun _=>Is.val fun e=>by cases e) fun hc=>?_;obtain ⟨q3,q4,q7⟩:=hb4 (hb6 (hb8 hc));obtain ⟨q2,q5⟩:=hb3 q3;obtain ⟨q8,q6⟩:=hb2 q2;refine Is.onInl (θ:=fun o=>(∃ v,o=.inl v/\∀ r∈k.Routes,0<=r/\r<(t.Routes.length:Nat))\/o=.inr false) ?_ (fun v hv=>?_) (fun b hb=>?_)
 ·refine Is.loop (mk:=fun i (q:Bool)=>(q,(i:Int))) k.Routes.length (fun i _=>∀ r∈k.Routes.take i,0<=r/\r<(t.Routes.length:Nat)) (decide (k.CutSeq=0)) (fun r hr=>by simp at hr) (fun i q hi hI=>?_) (fun q hI=>?_)
  ·obtain ⟨r,hr1⟩:∃ r,k.Routes[i]? = some r:=⟨_,aB hi⟩
   simp only [Hr];rw [decide_eq_true oG,cond_true];refine Is.at hr1 ?_;refine Is.bind (Is.or Qb fun _=>Is.val Qb) fun b26 hb26=>?_;refine Is.ite hb26 (fun _=>Is.val (.inr rfl)) fun hp=>?_;refine Is.bind (φ:=fun _=>True) ?_ fun b27 _=>Is.val ⟨b27,by rw [Fz oG],fun z hz=>?_⟩
   ·refine Is.cond (fun _=>Is.val trivial) fun _=>?_;refine Is.bind (φ:=fun _=>True) (Is.cond (fun _=>?_) fun _=>Is.val trivial) fun _ _=>Is.val trivial;refine (Is.ixn (show i<k.Ends.length by omega)).bind fun e _=>?_;exact (Is.ix oG oG).bind fun y _=>Is.val trivial
   ·rw [Lb hr1,aW,cG] at hz;rcases hz with hz|rfl
    ·exact hI z hz
    ·omega
  ·simp only [Hr];rw [decide_eq_false oG,cond_false];exact Is.val (.inl ⟨q,rfl,by rw [bA] at hI; exact hI⟩)
 ·rcases hv with ⟨v',e,hrng⟩|e
  ·exact Is.val fun _=>⟨⟨hs,q6,q5,h3,hrng,q4⟩,hr1.1 q8,q7⟩
  ·cases e
 ·rcases hb with ⟨_,e,_⟩|e
  ·cases e
  ·cases e;intro e; cases e
structure Jy9 (x:Jv):Prop where
 bulk:Jza x
 sm:Sm x.Layout
 nm:∀ t∈x.Trains,t.Name.size<=1048576
theorem Jy0{x:Jv}(h:Jy9 x):Is (Ig x) fun b=>b=true->OkL x.Layout/\Jkx x.Center/\x.Table.Routes.length<=50/\x.Slow.length<=20/\(∀ r∈x.Table.Routes,r.Sections.length<=30/\r.Path.length<=30)/\(∀ k∈x.Center.Tracks,Jxt x.Table.Routes.length k)/\(∀ r∈x.Table.Routes,TbR x.Layout r)/\(∀ k∈x.Center.Tracks,k.Routes.length<=60/\PrK x.Layout k)/\∀ t∈x.Trains,Jhj t=0:=by
 unfold Ig;obtain ⟨r1,e1,h1⟩:=Jmy h.sm;rw [e1,aA];refine (Ju6 h.bulk).bind fun r2 h2=>?_;refine Is.bind (φ:=fun b=>b=false->(r2=true/\r1.2=0)/\r1.1.Routes=x.Table.Routes) ?_ fun b3 hb3=>?_
 ·refine Is.cond (fun _=>Is.val fun e=>by cases e) fun hc=>?_;simp only [dI,eE,decide_eq_true_eq] at hc;obtain ⟨q1,q2,q3,q4⟩:=h1 hc.2;exact (Jxw (t:=x.Table) (fun rt hrt=>(q4 rt hrt).few) q1 q2 q3).bind fun r4 hr4=>Is.val fun e=>⟨hc,hr4 (by simpa using e)⟩
 refine Is.cond (fun _=>Is.val fun e=>by cases e) fun hc=>?_;obtain ⟨⟨q1,q2⟩,q3⟩:=hb3 hc;obtain ⟨⟨f1,f2,f3,f4⟩,⟨g1,g2,g3⟩,g4,g5⟩:=h2 q1;have hO:=Kal h.sm e1 q2;refine Is.all (L:=x.Trains) (fun _ t=>Jhj t=0) () oG (fun i y hy hi _=>?_) (by simp [Ll]) (fun htr=>?_)
 ·unfold Ll;refine Is.inb hi (Is.at hy ?_);rw [Jn2 (h.nm y (aD hy)),aA];exact Is.cond (fun _=>Is.val fun e=>by cases e) fun hc=>Is.val ⟨rfl,by simpa using hc⟩
 ·unfold Rl;rw [Jl7];refine Is.all (L:=x.Center.Tracks) (fun _ k=>Jxt x.Table.Routes.length k/\PrK x.Layout k) () oG (fun i k hk hi _=>?_) (by simp [Mb]) (fun hn=>Is.val fun _=>⟨hO,f1,g1,g4,g3,fun k hk=>(Vo.1 hn k hk).1,fun rt hrt=>(h1 q2).2.2.2 rt (by rw [q3]; exact hrt),fun k hk=>⟨(f4 k hk).2.1,(Vo.1 hn k hk).2⟩,Vo.1 htr⟩);unfold Mb;refine Is.inb hi (Is.at hk ?_);obtain ⟨a1,a2,a3,a4,a5⟩:=f4 k (aD hk);refine (Jtt h.sm (t:=x.Table) oG a1 a2 a3 a4 a5).bind fun r hr=>?_;cases r with
  | true=>exact Is.val ⟨rfl,hr rfl⟩
  | false=>exact Is.val fun e=>by cases e
def Jte(r:Ki):Prop:=(-1073741824<=r.Min/\r.Min<=1073741824)/\(0<=r.Speed/\r.Speed<=1073741824)/\(1<=r.Mode/\r.Mode<=7)/\(0<=r.Accepted/\r.Accepted<=1073741824)
def Kdx(m:Jo):Prop:=(0<=m.From/\m.From<=99)/\(0<=m.To/\m.To<=99)/\(0<=m.Seq/\m.Seq<=1073741824)/\(0<=m.Time/\m.Time<=1073741824)/\(m.Auth.Seq=0/\m.Auth.End=0/\m.Auth.Profile=[]/\m.Auth.Links=[])/\Jte m.Report
theorem Jq8(a b c:Int):Is (Vk a b c) fun r=>r=true↔(b<=a/\a<=c):=Is.val (by rw [aF,decide_eq_true_iff,decide_eq_true_iff])
theorem Jrp(a b c:Int):Is (Ky a b c) fun r=>r=true↔(b<=a/\a<=c):=Is.val (by rw [aF,decide_eq_true_iff,decide_eq_true_iff])
theorem Kel{α:Type}{L:List α}:decide (((L.length:Nat):Int)=0)=true↔L=[]:=by
 rw [decide_eq_true_iff];constructor
 ·intro h; exact aQ oG
 ·rintro rfl; rfl
theorem Jca{x:Option Bool}{p:Prop}(h:Is x fun b=>b=true↔p):Is (x.bind fun r=>some r) fun b=>b=true↔p:=by rw [Jl7]; exact h
theorem Jyd{m:Jo}(hk:m.Kind=1):Is (Cb m) fun b=>b=true↔Kdx m:=by
 unfold Cb;refine (Jrp _ _ _).bind fun r1 h1=>?_;have h1:=h1.2 oG;subst h1;rw [aY,cond_false];refine Is.bind (φ:=fun b=>b=true↔¬ (0<=m.From/\m.From<=99)) (Is.not (Jrp _ _ _)) fun b2 h2=>?_;refine Is.bind (φ:=fun b=>b=true↔(¬ (0<=m.From/\m.From<=99)\/¬ (0<=m.To/\m.To<=99))) (Is.or h2 fun _=>Is.not (Jrp _ _ _)) fun b4 h4=>?_;refine Is.ite h4 (fun hp=>Is.val (iff_of_false sG fun q=>hp.elim (fun a=>a q.1) fun a=>a q.2.1)) fun hp=>?_;have g1:0<=m.From/\m.From<=99:=bF fun a=>hp (.inl a);have g2:0<=m.To/\m.To<=99:=bF fun a=>hp (.inr a);refine (Jrp _ _ _).bind fun r6 h6=>?_;refine Is.bind (φ:=fun b=>b=true↔(¬ (0<=m.Seq/\m.Seq<=1073741824)\/¬ (0<=m.Time/\m.Time<=1073741824))) (Is.or (by rw [bK,<- eA,h6]) fun _=>Is.not (Jrp _ _ _)) fun b7 h7=>?_;refine Is.ite h7 (fun hp=>Is.val (iff_of_false sG fun q=>hp.elim (fun a=>a q.2.2.1) fun a=>a q.2.2.2.1)) fun hp=>?_;have g3:0<=m.Seq/\m.Seq<=1073741824:=bF fun a=>hp (.inl a);have g4:0<=m.Time/\m.Time<=1073741824:=bF fun a=>hp (.inr a);refine Is.bind (φ:=fun b=>b=true↔(m.Auth.Seq=0/\m.Auth.End=0/\m.Auth.Profile=[]/\m.Auth.Links=[])) ?_ fun r9 h9=>?_
 ·unfold Yi Fp;rw [hk];simp only [show ((decide ((1:Int)=2))||(decide ((1:Int)=3)))=false from rfl,aA,cL,cond_true];refine Is.bind (φ:=fun b=>b=true↔((m.Auth.Seq=0/\m.Auth.End=0)/\m.Auth.Profile=[])) (Is.and (p:=m.Auth.Seq=0/\m.Auth.End=0) (by rw [aF,decide_eq_true_iff,decide_eq_true_iff]) fun _=>Is.val Kel) fun b2 h2=>?_;refine Jca ((Is.and h2 fun _=>Is.val Kel).iff ?_);simp only [and_assoc]
 ·refine Jca ((Is.and h9 fun _=>Jca (p:=Jte m.Report) ?_).iff ?_)
  ·unfold Br;rw [hk];refine Is.cond (fun hc=>by simp at hc) fun _=>?_;refine (Jrp _ _ _).bind fun r1 a1=>?_;refine Is.bind (Is.and a1 fun _=>Jca (Jrp _ _ _)) fun b2 a2=>?_;refine Is.bind (Is.and a2 fun _=>Jca (Jrp _ _ _)) fun b4 a4=>?_;refine Jca ((Is.and a4 fun _=>Jca (Jrp _ _ _)).iff ?_);simp only [Jte,and_assoc]
  ·exact ⟨fun q=>⟨g1,g2,g3,g4,q.1,q.2⟩,fun q=>⟨q.2.2.2.2.1,q.2.2.2.2.2⟩⟩
theorem Ke3{a:Jz}(h:a.Profile.length<=1000)(h2:a.Links.length<=1000):Is (Yc a (Jz.mk 0 0 [] [])) fun b=>b=true↔(a.Seq=0/\a.End=0/\a.Profile=[]/\a.Links=[]):=by
 unfold Yc;refine Is.bind (φ:=fun b=>b=true↔¬ (a.Seq=0/\a.End=0/\a.Profile=[])) ?_ fun b1 h1=>?_
 ·refine (Is.or (p:=¬ (a.Seq=0/\a.End=0)) ?_ fun _=>Is.not (Jof (p:=a.Profile) (q:=[]) oG)).iff ?_
  ·simp only [cM,bK,decide_eq_false_iff_not];constructor
   ·rintro (q|q) r
    ·exact q r.1
    ·exact q r.2
   ·intro q
    by_cases e:a.Seq=0
    ·exact .inr fun f=>q ⟨e,f⟩
    ·exact .inl e
  ·constructor
   ·rintro (q|q) r
    ·exact q ⟨r.1,r.2.1⟩
    ·exact q r.2.2
   ·intro q
    by_cases e:a.Seq=0/\a.End=0
    ·exact .inr fun f=>q ⟨e.1,e.2,f⟩
    ·exact .inl e
 refine Is.bind (φ:=fun b=>b=true↔(¬ (a.Seq=0/\a.End=0/\a.Profile=[])\/¬ a.Links=[])) (Is.or h1 fun _=>Is.val (by rw [bK,<- eA]; exact not_congr Kel)) fun b3 h3=>?_;refine Is.ite h3 (fun hp=>Is.val (iff_of_false sG fun q=>hp.elim (fun a=>a ⟨q.1,q.2.1,q.2.2.1⟩) fun a=>a q.2.2.2)) fun hp=>?_;have e1:a.Seq=0/\a.End=0/\a.Profile=[]:=bF fun q=>hp (.inl q);have e2:a.Links=[]:=bF fun q=>hp (.inr q);refine Is.all (L:=a.Links) (fun _ _=>True) () oG (fun i y hy _ _=>by rw [e2] at hy; simp at hy) (by simp [Dc]) fun _=>Is.val (iff_of_true rfl ⟨e1.1,e1.2.1,e1.2.2,e2⟩)
theorem Jvf{m:Jo}(hk:m.Kind=1)(hp:m.Auth.Profile.length<=1000)(hl:m.Auth.Links.length<=1000):Is (Ez m) fun b=>b=true↔Kdx m:=by
 unfold Ez;refine (Jq8 _ _ _).bind fun r1 h1=>?_;have h1:=h1.2 oG;subst h1;rw [aY,cond_false];refine Is.bind (Is.not (Jq8 _ _ _)) fun b2 h2=>?_;refine Is.bind (Is.or h2 fun _=>Is.not (Jq8 _ _ _)) fun b4 h4=>?_;refine Is.bind (Is.or h4 fun _=>Is.not (Jq8 _ _ _)) fun b6 h6=>?_;refine Is.bind (Is.or h6 fun _=>Is.not (Jq8 _ _ _)) fun b8 h8=>?_;refine Is.ite h8 (fun hp=>Is.val (iff_of_false sG fun q=>?_)) fun hn=>?_
 ·obtain ⟨q1,q2,q3,q4,_⟩:=q;rcases hp with ((hp|hp)|hp)|hp
  ·exact hp q1
  ·exact hp q2
  ·exact hp q3
  ·exact hp q4
 have g1:0<=m.From/\m.From<=99:=bF fun a=>hn (.inl (.inl (.inl a)));have g2:0<=m.To/\m.To<=99:=bF fun a=>hn (.inl (.inl (.inr a)));have g3:0<=m.Seq/\m.Seq<=1073741824:=bF fun a=>hn (.inl (.inr a));have g4:0<=m.Time/\m.Time<=1073741824:=bF fun a=>hn (.inr a);rw [hk];refine Is.cond (fun hc=>by simp at hc) fun _=>?_;refine (Ke3 hp hl).bind fun r11 h11=>?_;refine Jca ((Is.and h11 fun _=>Jca (p:=Jte m.Report) ?_).iff ?_)
 ·simp only [decide_true,aY,Bool.and_false,cond_false,cond_true,Jl7];unfold Ho;refine (Jq8 _ _ _).bind fun r1 a1=>?_;refine Is.bind (Is.and a1 fun _=>Jca (Jq8 _ _ _)) fun b2 a2=>?_;refine Is.bind (Is.and a2 fun _=>Jca (Jq8 _ _ _)) fun b4 a4=>?_;refine Jca ((Is.and a4 fun _=>Jca (Jq8 _ _ _)).iff ?_);simp only [Jte,and_assoc]
 ·exact ⟨fun q=>⟨g1,g2,g3,g4,q.1,q.2⟩,fun q=>⟨q.2.2.2.2.1,q.2.2.2.2.2⟩⟩
theorem Ju9{m:Jo}(hk:m.Kind=1)(hp:m.Auth.Profile.length<=1000)(hl:m.Auth.Links.length<=1000):∃ b,Cb m=some b/\Ez m=some b/\(b=true->Kdx m):=by
 obtain ⟨b,e1,h1⟩:=Jyd hk;obtain ⟨b',e2,h2⟩:=Jvf hk hp hl;have:b'=b:=dR.2 (h2.trans h1.symm);subst this;exact ⟨b',e1,e2,h1.1⟩
theorem Jx5(s:Jk)(m:Jo)(now:Int):∃ r,Dg s m now=some r/\Tu s m now=some r:=by
 have:Is (Dg s m now) fun _=>True:=by
  unfold Dg Gx;refine Is.cond (fun _=>Is.val trivial) fun _=>?_;rw [aA];refine Is.cond (fun _=>Is.val trivial) fun _=>Is.cond (fun _=>Is.val trivial) fun _=>Is.val trivial
 obtain ⟨r,e,_⟩:=this;exact ⟨r,e,e⟩
theorem Ket{t:Jr}(h:Jhj t=0):1<=t.Length/\t.Length<=50000:=by
 have:Jyf t:=bF fun q=>by
  unfold Jhj at h;split at h
  ·cases h
  ·first|cases h|(rw [if_pos q] at h; cases h)
 exact this.2.1
theorem Jpc{t:Jr}(h:Jhj t=0){n:Int}(hn:-1073741824<=n/\n<=1073741824):∃ r,Yd t n=some r/\Dx t n=some r:=by
 have hr:=Ket h;unfold Yd Dx;rw [Int.max_eq_left (show (-2147483648:Int)<=n by omega),Hz oG oG,decide_eq_false oG,Bool.false_or]
 by_cases hc:n - t.Length < -2147483648
 ·rw [decide_eq_true hc];exact ⟨_,rfl,by rw [Int.max_eq_right oG]⟩
 ·rw [decide_eq_false hc];exact ⟨_,rfl,by rw [Int.max_eq_left oG]⟩
theorem Js6{t:Jr}(h:Jhj t=0){r:Ki}(hr:Jte r)(x:Int):∃ b,Bg t r x=some b/\Gu t r x=some b:=by
 obtain ⟨q,e1,e2⟩:=Jpc h hr.1;unfold Bg Gu;rw [e1,e2];cases r.Whole with
 | true=>exact ⟨_,rfl,rfl⟩
 | false=>exact ⟨_,rfl,rfl⟩
def Jeb(l:Ja)(c:Int):Int->List Jb->List Jb
 | _,[]=>[]
 | a,s::r=>(if a<c then [s] else [])++Jeb l c (a+lenOf l s) r
def Tm(l:Ja)(c:Int):Int->List Jb->List Jb
 | _,[]=>[]
 | a,s::r=>if a<c then s::Tm l c (a+lenOf l s) r else []
section
variable {l:Ja}
theorem Jpd(hO:OkL l){c:Int}:∀ {L:List Jb} {a:Int},c<=a->Jeb l c a L=[]
 | [],_,_=>rfl
 | s::r,a,h=>by
  unfold Jeb;rw [if_neg oG,Jpd hO (by have:=Jmb hO s; omega)]; rfl
theorem Jhg(hO:OkL l){c:Int}:∀ {L:List Jb} {a:Int},Jeb l c a L=Tm l c a L
 | [],_=>rfl
 | s::r,a=>by
  unfold Jeb Tm
  by_cases h:a<c
  ·rw [if_pos h,if_pos h,Jhg hO]; rfl
  ·rw [if_neg h,if_neg h,Jpd hO (by have:=Jmb hO s; omega)]; rfl
theorem Jep(hO:OkL l):∀ (L:List Jb),0<=Bt l L/\Bt l L<=1000000 * (L.length:Nat)
 | []=>⟨Int.le_refl _,by simp [Bt]⟩
 | s::r=>by
  have h1:=Jep hO r;have h2:=Jmb hO s;have h3:lenOf l s<=1000000:=by
   by_cases h:Vi l s.El=true
   ·have:=hO.lens h; omega
   ·unfold lenOf; rw [eA] at h; rw [h]; simp
  simp only [Bt,aE];omega
theorem Jpi{c:Int}:∀ {L:List Jb} {a:Int},(Tm l c a L).length<=L.length
 | [],_=>aI _
 | s::r,a=>by
  unfold Tm;split
  ·simp only [aE]; have:=Jpi (c:=c) (L:=r) (a:=a+lenOf l s); omega
  ·simp
theorem Jpt{c:Int}:∀ {L:List Jb} {a:Int} {s:Jb},s∈Tm l c a L->s∈L
 | [],_,_,h=>h
 | x::r,a,s,h=>by
  unfold Tm at h;split at h
  ·rcases bG.1 h with rfl|h
   ·simp
   ·exact dC _ (Jpt h)
  ·cases h
end
section
variable {l:Ja} {t:Jw} {k:Jd}
theorem Jtu{L:List Int}(x:Int)(h:L.length<=1000):Qd L [x]=some (L++[x]):=by
 unfold Qd;rw [if_pos (by simp only [aE,aN,Jx,Enc.b]; omega)]
theorem Kdm{L:List Jb}(x:Jb)(h:L.length<=1000):Qd L [x]=some (L++[x]):=by
 unfold Qd;rw [if_pos (by simp only [aE,aN,Jx,Enc.b]; omega)]
structure Kcs (t:Jw) (k:Jd) (i:Nat) (g:Bool) (f fi:Int) (R S E:List Int):Prop where
 giv:g=decide (0<=fi)
 yes:0<=fi->∃ x,ixO t.Routes fi=some x/\f=x.Entry
 no:fi<0->f=k.End/\R=k.Routes.take i/\S=k.Starts.take i/\E=k.Ends.take i
 rl:R.length<=i
 sl:S.length=R.length
 el:E.length=R.length
theorem Juk(h1:k.Starts.length=k.Routes.length)(h2:k.Ends.length=k.Routes.length)(hn:k.Routes.length<=1000)(hr:∀ r∈k.Routes,0<=r/\r<(t.Routes.length:Nat)){i:Nat}(hi:i<k.Routes.length){g:Bool}{f fi:Int}{R S E:List Int}(h:Kcs t k i g f fi R S E) :
  ∃ g' f' fi' R' S' E',Ux t k k.Routes k.Starts k.Ends (g,(i:Int),f,R,S,E)=some (.inl (g',((i+1:Nat):Int),f',R',S',E'))/\Vc k k.Routes k.Starts k.Ends (fi,(i:Int),R,S,E)=some (.inl (fi',((i+1:Nat):Int),R',S',E'))/\Kcs t k (i+1) g' f' fi' R' S' E':=by
 obtain ⟨hg,hy,hno,hl,hs,he⟩:=h;have q1:=aB hi;have q2:=aB (show i<k.Starts.length by omega);have q3:=aB (show i<k.Ends.length by omega);generalize k.Routes[i]=r at q1;generalize k.Starts[i]'(by omega)=s at q2;generalize k.Ends[i]'(by omega)=e at q3;have hrr:=hr r (aD q1);have ei:w64 ((i:Int)+1)=((i+1:Nat):Int):=Fz oG;have d1:decide ((i:Int)<((k.Routes.length:Nat):Int))=true:=decide_eq_true oG;have d2:decide ((i:Int)<((k.Ends.length:Nat):Int))=true:=decide_eq_true oG;have d3:decide (((k.Starts.length:Nat):Int)<=(i:Int))=false:=decide_eq_false oG;have d4:decide (((k.Ends.length:Nat):Int)<=(i:Int))=false:=decide_eq_false oG
 by_cases hc:e<=k.Cut
 ·refine ⟨g,f,fi,R++[r],S++[s],E++[e], ?_, ?_,⟨hg,hy,fun q=>?_,by rw [aM,bY]; omega,by simp [hs],by simp [he]⟩⟩
  ·unfold Ux;simp only [d1,cond_true,Qm q1,Qm q2,Qm q3,aA,d3,d4,cond_false,decide_eq_true hc,Jtu _ (show R.length<=1000 by omega),Jtu _ (show S.length<=1000 by omega),Jtu _ (show E.length<=1000 by omega),onInl,Wk,ei]
  ·unfold Vc;simp only [d2,cond_true,Qm q1,Qm q2,Qm q3,aA,decide_eq_true hc,Jtu _ (show R.length<=1000 by omega),Jtu _ (show S.length<=1000 by omega),Jtu _ (show E.length<=1000 by omega),onInl,Wk,ei]
  ·obtain ⟨a,b,c,d⟩:=hno q;exact ⟨a,by rw [Lb q1,b],by rw [Lb q2,c],by rw [Lb q3,d]⟩
 ·by_cases hf:fi<0
  ·have hg0:g=false:=by rw [hg]; exact decide_eq_false oG
   obtain ⟨x,hx⟩:∃ x,ixO t.Routes r=some x:=⟨_,by
    rw [show r=((r.toNat:Nat):Int) by omega]; exact Qm (aB oG)⟩
   refine ⟨true,x.Entry,r,R,S,E, ?_, ?_,⟨(decide_eq_true hrr.1).symm,fun _=>⟨x,hx,rfl⟩,fun q=>by omega,by omega,hs,he⟩⟩
   ·unfold Ux;simp only [d1,cond_true,Qm q1,Qm q3,aA,d3,d4,cond_false,decide_eq_false hc,hg0,cL,dQ,decide_eq_true hrr.1,decide_eq_true hrr.2,hx,onInl,Wk,ei]
   ·unfold Vc;simp only [d2,cond_true,Qm q1,Qm q3,aA,decide_eq_false hc,cond_false,decide_eq_true hf,onInl,Wk,ei]
  ·have hg0:g=true:=by rw [hg]; exact decide_eq_true oG
   refine ⟨true,f,fi,R,S,E, ?_, ?_,⟨(decide_eq_true oG).symm,hy,fun q=>absurd q hf,by omega,hs,he⟩⟩
   ·unfold Ux;simp only [d1,cond_true,Qm q1,Qm q3,aA,d3,d4,cond_false,decide_eq_false hc,hg0,aY,Bool.false_and,onInl,Wk,ei]
   ·unfold Vc;simp only [d2,cond_true,Qm q3,aA,decide_eq_false hc,cond_false,decide_eq_false hf,onInl,Wk,ei]
theorem Jr3(h1:k.Starts.length=k.Routes.length)(h2:k.Ends.length=k.Routes.length)(hn:k.Routes.length<=1000)(hr:∀ r∈k.Routes,0<=r/\r<(t.Routes.length:Nat)) :
  ∀ (m i:Nat),i+m=k.Routes.length->∀ {g:Bool} {f fi:Int} {R S E:List Int},Kcs t k i g f fi R S E ->
   ∃ g' f' fi' R' S' E',Jq (Ux t k k.Routes k.Starts k.Ends) (g,(i:Int),f,R,S,E)=some (.inl (R',S',E',g',f'))/\Jq (Vc k k.Routes k.Starts k.Ends) (fi,(i:Int),R,S,E)=some (.inl (R',S',E',fi'))/\Kcs t k k.Routes.length g' f' fi' R' S' E':=by
 intro m;induction m with
 | zero=>
  intro i hi g f fi R S E h;have:i=k.Routes.length:=by omega
  subst this;refine ⟨g,f,fi,R,S,E,Qj ?_,Qj ?_,h⟩
  ·unfold Ux; dsimp only; rw [decide_eq_false oG,cond_false]
  ·unfold Vc; dsimp only; rw [decide_eq_false oG,cond_false]
 | succ m ih=>
  intro i hi g f fi R S E h;obtain ⟨g',f',fi',R',S',E',e1,e2,h'⟩:=Juk h1 h2 hn hr (show i<k.Routes.length by omega) h;obtain ⟨a,b,c,d,e,f2,q1,q2,q3⟩:=ih (i+1) oG h';exact ⟨a,b,c,d,e,f2,by rw [Dn e1]; exact q1,by rw [Dn e2]; exact q2,q3⟩
theorem Kau(hO:OkL l){L:List Jb}(hs:L.length<=100){o c:Int}(ho:-1073741824<=o/\o<=1073741824):Dm l L o c=some (Tm l c o L):=by
 have:Is (Dm l L o c) fun r=>r=Tm l c o L:=by
  unfold Dm;refine Is.onInl (θ:=fun r=>r=.inl (Tm l c o L)) ?_ (fun v hv=>by cases hv; exact Is.val rfl) (fun b hb=>by cases hb);refine Is.loop (mk:=fun i (s:Int×List Jb)=>(s.1,(i:Int),s.2)) L.length (fun i s=>s.1=o+Bt l (L.take i)/\s.2.length<=i/\s.2++Jeb l c s.1 (L.drop i)=Tm l c o L) (o,[]) ⟨by simp [Bt],aI _,by simp [Jhg hO]⟩ (fun i s hi hI=>?_) (fun s hI=>?_)
  ·obtain ⟨a,M⟩:=s;obtain ⟨h1,h2,h3⟩:=hI;simp only at h1 h2 h3;have hx:=aB hi;have hdrop:=cS hi;generalize L[i]=x at hx hdrop;have hsum:=Jep hO (L.take i);have hlt:(L.take i).length<=100:=by rw [aU]; omega
   have hsum2:=Jep hO [x];simp only [Bt,aE,aN] at hsum2;have hsx:Bt l (L.take (i+1))=Bt l (L.take i)+lenOf l x:=by rw [Lb hx,Rr]; simp [Bt]
   rw [hdrop] at h3;unfold Jeb at h3;simp only [Hc];rw [decide_eq_true oG,cond_true];refine Is.at hx ?_;refine Is.onInl (θ:=fun o=>o=.inl (M++(if a<c then [x] else []))) ?_ (fun v hv=>?_) (fun b hb=>by cases hb)
   ·refine Is.ite Qb (fun hc=>?_) fun hc=>Is.val (by rw [if_neg hc,bL]);rw [Kdm _ oG,if_pos hc];exact Is.val rfl
   ·cases hv;unfold Va;rw [Jfl l _ sG,show Bt l [x]=lenOf l x by simp [Bt],Hz (n:=lenOf l x) oG oG];simp only [aA];rw [Hz oG oG,Fz oG];refine Is.val ⟨(a+lenOf l x,M++(if a<c then [x] else [])),rfl,by show a+lenOf l x=_; rw [hsx,h1]; omega, ?_, ?_⟩
    ·show (M++_).length<=i+1;rw [aM];split <;> simp <;> omega
    ·show (M++_)++_=_;rw [cR]; exact h3
  ·obtain ⟨a,M⟩:=s;obtain ⟨h1,h2,h3⟩:=hI;simp only [List.drop_length,Jeb,bL] at h3;simp only [Hc];rw [decide_eq_false oG,cond_false];exact Is.val (by rw [h3])
 obtain ⟨r,e,rfl⟩:=this;exact e
theorem Kcd(hO:OkL l)(hs:k.Steps.length<=100)(hel:∀ s∈k.Steps,Vi l s.El=true)(ho:-1073741824<=k.Origin/\k.Origin<=1073741824):Jq (Ba l k k.Steps) (k.Origin,0,([]:List Jb))=some (.inl (Tm l k.Cut k.Origin k.Steps)):=by
 have:Is (Jq (Ba l k k.Steps) (k.Origin,0,([]:List Jb))) fun r=>r=.inl (Tm l k.Cut k.Origin k.Steps):=by
  refine Is.loop (mk:=fun i (s:Int×List Jb)=>(s.1,(i:Int),s.2)) k.Steps.length (fun i s=>s.1=k.Origin+Bt l (k.Steps.take i)/\s.2.length<=i/\s.2++Jeb l k.Cut s.1 (k.Steps.drop i)=Tm l k.Cut k.Origin k.Steps) (k.Origin,[]) ⟨by simp [Bt],aI _,by simp [Jhg hO]⟩ (fun i s hi hI=>?_) (fun s hI=>?_)
  ·obtain ⟨a,M⟩:=s;obtain ⟨h1,h2,h3⟩:=hI;simp only at h1 h2 h3;have hx:=aB hi;have hdrop:=cS hi;generalize k.Steps[i]=x at hx hdrop;have hsum:=Jep hO (k.Steps.take i);have hlt:(k.Steps.take i).length<=100:=by rw [aU]; omega
   have hsum2:=Jep hO [x];simp only [Bt,aE,aN] at hsum2;have hsx:Bt l (k.Steps.take (i+1))=Bt l (k.Steps.take i)+lenOf l x:=by rw [Lb hx,Rr]; simp [Bt]
   rw [hdrop] at h3;unfold Jeb at h3;simp only [Ba];rw [decide_eq_true oG,cond_true];refine Is.at hx ?_;refine Is.onInl (θ:=fun o=>o=.inl (M++(if a<k.Cut then [x] else []))) ?_ (fun v hv=>?_) (fun b hb=>by cases hb)
   ·refine Is.ite Qb (fun hc=>?_) fun hc=>Is.val (by rw [if_neg hc,bL]);rw [Kdm _ oG,if_pos hc];exact Is.val rfl
   ·cases hv;have hp:=hel x (aD hx);obtain ⟨e,e1,e2⟩:=Wu hp;have hle:lenOf l x=e.Length:=by simp [lenOf,hp,e2]
    rw [e1,aA,<- hle,Hz oG oG,Fz oG];refine Is.val ⟨(a+lenOf l x,M++(if a<k.Cut then [x] else [])),rfl,by show a+lenOf l x=_; rw [hsx,h1]; omega, ?_, ?_⟩
    ·show (M++_).length<=i+1;rw [aM];split <;> simp <;> omega
    ·show (M++_)++_=_;rw [cR]; exact h3
  ·obtain ⟨a,M⟩:=s;obtain ⟨h1,h2,h3⟩:=hI;simp only [List.drop_length,Jeb,bL] at h3;simp only [Ba];rw [decide_eq_false oG,cond_false];exact Is.val (by rw [h3])
 obtain ⟨r,e,rfl⟩:=this;exact e
theorem Kfs{L:List Int}(y:Int)(h:L.length<=1048576):Ud L y=some (decide (y∈L)):=by
 obtain ⟨b,e,hb⟩:=Jqp L y h;rw [e,dR.2 (hb.trans Qb.symm)]
theorem Kej(L:List Int)(y:Int)(h:L.length<=1048576):Jay L y=some (decide (y∈L)):=Jhl L y h
theorem Jyc{tr:Jr}(ht:Jhj tr=0){rep:Ki}(hp:Jte rep):∀ (n:Nat) (R S E D:List Int),R.length=n->S.length=n->E.length=n->n+D.length<=900 ->
  ∃ R' S' E' D',Jq (Ws tr rep) (R,S,E,D)=some (.inl (R',S',E',D'))/\Jq (Yh tr rep) (R,S,E,D)=some (.inl (R',S',E',D'))/\R'.length<=n/\S'.length<=n/\E'.length<=n/\D'.length<=900:=by
 intro n;induction n with
 | zero=>
  intro R S E D h1 h2 h3 h4;refine ⟨R,S,E,D,Qj ?_,Qj ?_,by omega,by omega,by omega,by omega⟩
  ·unfold Ws; dsimp only; rw [decide_eq_false oG]; rfl
  ·unfold Yh; dsimp only; rw [decide_eq_false oG]; rfl
 | succ n ih=>
  intro R S E D h1 h2 h3 h4;cases R with
  | nil=>simp at h1
  | cons r R=>
   cases S with
   | nil=>simp at h2
   | cons s S=>
    cases E with
    | nil=>simp at h3
    | cons e E=>
     simp only [aE] at h1 h2 h3;obtain ⟨b,b1,b2⟩:=Js6 ht hp s;have d1:decide (0<(((r::R).length:Nat):Int))=true:=decide_eq_true (by simp only [aE]; omega);have d2:decide (0<(((s::S).length:Nat):Int))=true:=decide_eq_true (by simp only [aE]; omega);have d3:decide (0<(((e::E).length:Nat):Int))=true:=decide_eq_true (by simp only [aE]; omega);have i1:ixO (r::R) 0=some r:=rfl;have i2:ixO (s::S) 0=some s:=rfl;have s1:slO (r::R) (some 1) none none=some R:=Jlz (l:=1) (by simp only [aE]; omega);have s2:slO (s::S) (some 1) none none=some S:=Jlz (l:=1) (by simp only [aE]; omega);have s3:slO (e::E) (some 1) none none=some E:=Jlz (l:=1) (by simp only [aE]; omega);cases b with
     | false=>
      refine ⟨r::R,s::S,e::E,D,Qj ?_,Qj ?_,by simp only [aE]; omega,by simp only [aE]; omega,by simp only [aE]; omega,by omega⟩
      ·unfold Ws; simp only [d1,d2,d3,cond_true,aA,i2,b1,cond_false]
      ·unfold Yh; simp only [d1,cond_true,aA,i2,b2,cond_false]
     | true=>
      obtain ⟨R',S',E',D',q1,q2,q3,q4,q5,q6⟩:=ih R S E (if r∈D then D else D++[r]) oG oG oG (by
       split
       ·omega
       ·rw [aM,bY]; omega)
      refine ⟨R',S',E',D', ?_, ?_,by omega,by omega,by omega,q6⟩
      ·rw [Dn (s':=(R,S,E,if r∈D then D else D++[r]))]
       ·exact q1
       ·unfold Ws;simp only [d1,d2,d3,cond_true,aA,i1,i2,b1,Kfs _ (show D.length<=1048576 by omega)]
        by_cases hm:r∈D
        ·simp only [decide_eq_true hm,aY,cond_false,onInl,Wk,s1,s2,s3,aA,if_pos hm]
        ·simp only [decide_eq_false hm,cL,cond_true,Jtu _ (show D.length<=1000 by omega),onInl,Wk,s1,s2,s3,aA,if_neg hm]
      ·rw [Dn (s':=(R,S,E,if r∈D then D else D++[r]))]
       ·exact q2
       ·unfold Yh;simp only [d1,cond_true,aA,i1,i2,b2,Kej _ _ (show D.length<=1048576 by omega)]
        by_cases hm:r∈D
        ·simp only [decide_eq_true hm,aY,cond_false,onInl,Wk,s1,s2,s3,aA,if_pos hm]
        ·simp only [decide_eq_false hm,cL,cond_true,Jtu _ (show D.length<=1000 by omega),onInl,Wk,s1,s2,s3,aA,if_neg hm]
theorem Juj(hO:OkL l){tr:Jr}{rep:Ki}(hw:rep.Whole=true){rr:Int}(h2:Dx tr (max k.Min rep.Min)=some rr):∀ (n:Nat) (o:Int) (L:List Jb),L.length=n->(∀ s∈L,Vi l s.El=true) ->
  ∃ o' L',Jq (Wq l rr) (o,L)=some (.inl (o',L'))/\Jq (Uq l tr k rep) (o,L)=some (.inl (o',L'))/\L'.length<=n:=by
 intro n;induction n with
 | zero=>
  intro o L hl _;have:L=[]:=aQ hl;subst this;exact ⟨o,[],Qj rfl,Qj (by unfold Uq; simp [hw]),cT _⟩
 | succ n ih=>
  intro o L hl hel;cases L with
  | nil=>simp at hl
  | cons s L=>
   have hp:=hel s sG;obtain ⟨e,e1,e2⟩:=Wu hp;have hle:lenOf l s=e.Length:=by simp [lenOf,hp,e2]
   have hlr:=hO.lens hp;have i1:ixO (s::L) 0=some s:=rfl;have cl:Va l s=some e.Length:=by
    unfold Va;rw [Jfl l _ sG,show Bt l [s]=lenOf l s by simp [Bt],Hz (n:=lenOf l s) oG oG,hle]
    rfl
   have s1:slO (s::L) (some 1) none none=some L:=Jlz (l:=1) (by simp only [aE]; omega)
   by_cases h1:1<=L.length
   ·have d1:decide (2<=(((s::L).length:Nat):Int))=true:=decide_eq_true (by simp only [aE]; omega);have d2:decide (1<(((s::L).length:Nat):Int))=true:=decide_eq_true (by simp only [aE]; omega);cases hc:decide (w64 (o+e.Length)<=rr) with
    | false=>
     refine ⟨o,s::L,Qj ?_,Qj ?_,by rw [hl]; exact aI _⟩
     ·unfold Wq; simp only [d1,cond_true,aA,i1,cl,hc,cond_false]
     ·unfold Uq; simp only [hw,d2,cond_true,aA,i1,e1,h2,hc,cond_false]
    | true=>
     obtain ⟨o',L',q1,q2,q3⟩:=ih (w64 (o+e.Length)) L (by simpa using hl) fun y hy=>hel y (by simp [hy]);refine ⟨o',L', ?_, ?_,by omega⟩
     ·rw [Dn (s':=(w64 (o+e.Length),L))]
      ·exact q1
      ·unfold Wq; simp only [d1,cond_true,aA,i1,cl,hc,s1]
     ·rw [Dn (s':=(w64 (o+e.Length),L))]
      ·exact q2
      ·unfold Uq; simp only [hw,d2,cond_true,aA,i1,e1,h2,hc,s1]
   ·have d1:decide (2<=(((s::L).length:Nat):Int))=false:=decide_eq_false (by simp only [aE]; omega);have d2:decide (1<(((s::L).length:Nat):Int))=false:=decide_eq_false (by simp only [aE]; omega);refine ⟨o,s::L,Qj ?_,Qj ?_,by rw [hl]; exact aI _⟩
    ·unfold Wq; simp only [d1,cond_false,aA]
    ·unfold Uq; simp only [hw,d2,cond_true,cond_false,aA]
end
theorem isE{α:Type}{x:Option α}{a:α}(h:Is x fun r=>r=a):x=some a:=by
 obtain ⟨r,e,rfl⟩:=h;exact e
section
variable {l:Ja} {t:Jw} {k:Jd}
theorem Jr8(hO:OkL l)(hf:Jvr k){n:Nat}(hn:t.Routes.length=n)(ho:Jxt n k)(h60:k.Routes.length<=60)(hp:PrK l k){tr:Jr}(ht:Jhj tr=0){rep:Ki}(hr:Jte rep) :
  ∃ r,En l t tr k rep=some r/\Gh l t tr k rep=some r/\Jvr r:=by
 have g1:=hf.steps; have g2:=hf.routes; have g3:=hf.starts; have g4:=hf.ends; have g5:=hf.done;have hel:∀ s∈k.Steps,Vi l s.El=true:=fun s hs=>by
  obtain ⟨i,hi⟩:=aX hs;obtain ⟨e,_,_,h1,_⟩:=Kcn hO hp.valid hi;exact h1
 have hst:=ho.starts; have hen:=ho.ends; have hs100:=ho.steps; have hd:=ho.done;have hmax:-1073741824<=max k.Min rep.Min/\max k.Min rep.Min<=1073741824:=by have:=hp.mn; have:=hr.1; omega
 obtain ⟨rr,r1,r2⟩:=Jpc ht hmax
 -- from a track whose lists are cut: the rest
 have rest:∀ (en at' cut cs:Int) (L:List Jb) (R S E:List Int),(∀ s∈L,Vi l s.El=true)->L.length<=1000->S.length=R.length->E.length=R.length->R.length<=60 ->
   ∃ r,(onInl (β:=Jd) (Jq (Ws tr rep) (R,S,E,k.Done)) fun x=>onInl (β:=Jd) (bif rep.Whole then ((Yd tr (max k.Min rep.Min)).bind fun r724=>onInl (β:=(Int×List Jb)⊕Jd) (Jq (Wq l r724) (k.Origin,L)) fun y=>some (.inl (y.1,y.2))) else some (.inl (k.Origin,L))) fun y=>
     some (Jd.mk k.Id y.1 en at' y.2 x.1 x.2.1 x.2.2.1 x.2.2.2 (max k.Min rep.Min) k.Sent (max k.Accepted (min k.Sent rep.Accepted)) cut cs))=some r /\
    (onInl (β:=Jd) (Jq (Yh tr rep) (R,S,E,k.Done)) fun x=>onInl (β:=Jd) (Jq (Uq l tr k rep) (k.Origin,L)) fun y=>
     some (Jd.mk k.Id y.1 en at' y.2 x.1 x.2.1 x.2.2.1 x.2.2.2 (max k.Min rep.Min) k.Sent (max k.Accepted (min k.Sent rep.Accepted)) cut cs))=some r/\Jvr r:=by
  intro en at' cut cs L R S E hL hl1 hS hE hR;obtain ⟨R',S',E',D',q1,q2,q3,q4,q5,q6⟩:=Jyc ht hr R.length R S E k.Done rfl hS hE oG;rw [q1,q2];cases hw:rep.Whole with
  | true=>
   obtain ⟨o',L',u1,u2,u3⟩:=Juj (k:=k) hO hw r2 L.length k.Origin L rfl hL;refine ⟨Jd.mk k.Id o' en at' L' R' S' E' D' (max k.Min rep.Min) k.Sent (max k.Accepted (min k.Sent rep.Accepted)) cut cs, ?_, ?_, ?_⟩
   rotate_left
   ·simp only [onInl,Wk,u2,aA]
   ·exact ⟨by show L'.length<=1000; omega,by show R'.length<=1000; omega,by show S'.length<=1000; omega,by show E'.length<=1000; omega,by show D'.length<=1000; omega⟩
   ·simp only [onInl,Wk,cond_true,r1,u1,aA]
  | false=>
   have u2:Jq (Uq l tr k rep) (k.Origin,L)=some (.inl (k.Origin,L)):=Qj (by unfold Uq; simp only [hw,cond_false,aA]);refine ⟨Jd.mk k.Id k.Origin en at' L R' S' E' D' (max k.Min rep.Min) k.Sent (max k.Accepted (min k.Sent rep.Accepted)) cut cs, ?_, ?_, ?_⟩
   rotate_left
   ·simp only [onInl,Wk,u2,aA]
   ·exact ⟨by show L.length<=1000; omega,by show R'.length<=1000; omega,by show S'.length<=1000; omega,by show E'.length<=1000; omega,by show D'.length<=1000; omega⟩
   ·simp only [onInl,Wk,cond_false,aA]
 unfold En Gh;rw [Kat hf.steps,Je5 hf.routes,Je5 hf.starts,Je5 hf.ends,Je5 hf.done,Jby (by simp only [Jx,Enc.b]; omega),Jby (by simp only [Jx,Enc.b]; omega),Jby (by simp only [Jx,Enc.b]; omega),Jby (by simp only [Jx,Enc.b]; omega),Jby (by simp only [Jx,Enc.b]; omega)];simp only [aA];cases hc:((!(decide (k.CutSeq=0)))&&(decide (k.CutSeq<=(max k.Accepted (min k.Sent rep.Accepted))))) with
 | false=>exact rest k.End k.At k.Cut k.CutSeq k.Steps k.Routes k.Starts k.Ends hel g1 hst hen h60
 | true=>
  obtain ⟨g',f',fi',R',S',E',e1,e2,hI⟩:=Jr3 (t:=t) (k:=k) hst hen g2 (fun r hr=>by rw [hn]; exact ho.rng r hr) k.Routes.length 0 oG (g:=false) (f:=k.End) (fi:=-1) (R:=[]) (S:=[]) (E:=[]) ⟨rfl,fun q=>by omega,fun _=>⟨rfl,by simp,by simp,by simp⟩,aI _,rfl,rfl⟩;have e1':Jq (Ux t k k.Routes k.Starts k.Ends) (false,0,k.End,([]:List Int),([]:List Int),([]:List Int))=some (.inl (R',S',E',g',f')):=e1;have e2':Jq (Vc k k.Routes k.Starts k.Ends) ((-1),0,([]:List Int),([]:List Int),([]:List Int))=some (.inl (R',S',E',fi')):=e2;simp only [cond_true,e1',e2',onInl,Wk,aA]
  by_cases hf0:0<=fi'
  ·obtain ⟨x,hx,hfx⟩:=hI.yes hf0;have hg:g'=true:=by rw [hI.giv]; exact decide_eq_true hf0
   have hl:(Tm l k.Cut k.Origin k.Steps).length<=k.Steps.length:=Jpi;have:=rest f' k.Cut 0 0 (Tm l k.Cut k.Origin k.Steps) R' S' E' (fun s hs=>hel s (Jpt hs)) oG hI.sl hI.el (by have:=hI.rl; omega);simp only [hg,cond_true,Kau hO hs100 ho.origin,Kcd hO hs100 hel ho.origin,decide_eq_true hf0,hx,aA,<- hfx];exact this
  ·obtain ⟨a,b,c,d⟩:=hI.no oG;have hg:g'=false:=by rw [hI.giv]; exact decide_eq_false hf0
   rw [bA] at b;rw [<- hst,bA] at c;rw [<- hen,bA] at d;subst a; subst b; subst c; subst d;simp only [hg,cond_false,decide_eq_false hf0,aA];exact rest k.End k.At 0 0 k.Steps k.Routes k.Starts k.Ends hel g1 hst hen h60
theorem Kee{T:List Jr}{m:Jo}(hT:T.length<=1048576):Is (Kt T m) fun r=>(r = -1/\∀ x∈T,x.Id≠m.From)\/∃ (i:Nat) (x:Jr),r=(i:Int)/\T[i]? = some x/\x.Id=m.From/\∀ j y,j<i->T[j]? = some y->y.Id≠m.From:=by
 unfold Kt;refine Is.all (L:=T) (fun _ x=>x.Id≠m.From) () oG (fun i x hx hi hI=>?_) (by simp [Vh]) fun hn=>Is.val (.inl ⟨rfl,Vo.1 hn⟩);unfold Vh Ht;refine Is.inb hi (Is.at hx ?_);rw [aA];exact Is.ite Qb (fun hp=>Is.val (.inr ⟨i,x,rfl,hx,hp,fun j y hj hy=>hI j y hj hy⟩)) fun hp=>Is.val ⟨rfl,hp⟩
theorem Jgx{trains:List Jr}{c:Jj}{m:Jo}{now:Int}{i:Nat}(hT:trains.length<=1048576){K:Unit->Option (Jj×Int)}{ψ:Jj×Int->Prop}(h1:(∀ x∈trains,x.Id≠m.From)->Is (K ()) ψ)(h2:∀ (j:Nat) (x:Jr),trains[j]? = some x->x.Id=m.From->(∀ q y,q<j->trains[q]? = some y->y.Id≠m.From)->Is (Uh l t trains c m now (i:Int) (j:Int)) fun o=>∃ r,o=.inr (.inr r)/\ψ r) :
  Is (onInl (Jq (Uh l t trains c m now (i:Int)) 0) K) ψ:=by
 refine Is.onInl (θ:=fun o=>(o=.inl ()/\∀ x∈trains,x.Id≠m.From)\/∃ r,o=.inr r/\ψ r) ?_ (fun v hv=>?_) (fun b hb=>?_)
 ·refine Is.loop (mk:=fun j (_:Unit)=>(j:Int)) trains.length (fun j _=>∀ q y,q<j->trains[q]? = some y->y.Id≠m.From) () (fun q y hq=>by omega) (fun j _ hj hI=>?_) (fun _ hI=>?_)
  ·have hx:=aB hj;generalize trains[j]=x at hx
   by_cases he:x.Id=m.From
   ·refine (h2 j x hx he hI).mono fun o ho=>?_;obtain ⟨r,rfl,hr⟩:=ho;exact .inr ⟨r,rfl,hr⟩
   ·unfold Uh;rw [decide_eq_true (show ((j:Nat):Int)<((trains.length:Nat):Int) by omega),decide_eq_true (show (0:Int)<=(i:Int) by omega),dQ,cond_true];refine Is.at hx ?_;rw [decide_eq_false he,cond_false];refine Is.val ⟨(),by rw [Fz oG],fun q y hq hy=>?_⟩
    by_cases e:q=j
    ·subst e; rw [hx] at hy; cases hy; exact he
    ·exact hI q y oG hy
  ·unfold Uh;rw [decide_eq_false oG,Bool.false_and,cond_false];exact Is.val (.inl ⟨rfl,fun x hx=>by
    obtain ⟨q,hq⟩:=aX hx;exact hI q x (Qo hq) hq⟩)
 ·rcases hv with ⟨_,hv⟩|⟨_,e,_⟩
  ·exact h1 hv
  ·cases e
 ·rcases hb with ⟨e,_⟩|⟨r,e,hr⟩
  ·cases e
  ·cases e; exact hr
theorem Jqe(hO:OkL l){trains:List Jr}(hT:trains.length<=1048576)(htr:∀ x∈trains,Jhj x=0){c:Jj}(hc:Jkx c)(hok:∀ k∈c.Tracks,Jxt t.Routes.length k)(hpr:∀ k∈c.Tracks,k.Routes.length<=60/\PrK l k){m:Jo}(hmp:m.Auth.Profile.length<=1000)(hml:m.Auth.Links.length<=1000)(now:Int) :
  ∃ r,Zp l t trains c m now=some r/\Vu l t trains c m now=some r/\Jkx r.1:=by
 have h0:Jkx (Jj.mk [] []):=Kfy
 by_cases hs:c.Sessions.length=c.Tracks.length
 rotate_left
 ·refine ⟨((Jj.mk [] []),1), ?_, ?_,h0⟩
  rotate_left
  ·unfold Vu Ye;rw [aA,decide_eq_false oG]; rfl
  ·unfold Zp Vt;rw [aA,decide_eq_false oG]; rfl
 by_cases hk:m.Kind=1
 rotate_left
 ·refine ⟨((Jj.mk [] []),1), ?_, ?_,h0⟩
  rotate_left
  ·unfold Vu Ye;rw [aA,decide_eq_true (by rw [hs]),decide_eq_false hk]; rfl
  ·unfold Zp Vt;rw [aA,decide_eq_true (by rw [hs]),decide_eq_false hk]; rfl
 obtain ⟨b,v1,v2,v3⟩:=Ju9 hk hmp hml;cases b with
 | false=>
  refine ⟨((Jj.mk [] []),1), ?_, ?_,h0⟩
  rotate_left
  ·unfold Vu Ye;rw [aA,decide_eq_true (by rw [hs]),decide_eq_true hk,v2]; rfl
  ·unfold Zp Vt;rw [aA,decide_eq_true (by rw [hs]),decide_eq_true hk,v1]; rfl
 | true=>
  have hM:=v3 rfl;obtain ⟨mp,n1,n2⟩:=Jus hc.tr;have hid:=n2 m.From;have rstart:Vu l t trains c m now=onInl (α:=Unit) (β:=(Jj×Int)) (Jq (Uh l t trains c m now (match Bv c.Tracks m.From with|some n=>(n:Int)|none=> -1)) 0) fun _=>some ((Jj.mk [] []),9):=by
   unfold Vu Ye;rw [aA,decide_eq_true (by rw [hs]),decide_eq_true hk,v2];simp only [aY,Bool.or_self,cond_false,aA,Ka7 hc.tr] <;> cases Bv c.Tracks m.From <;> rfl
  rw [rstart];unfold Zp Vt;rw [aA,decide_eq_true (by rw [hs]),decide_eq_true hk,v1];simp only [aY,Bool.or_self,cond_false,aA,n1];cases hF:Bv c.Tracks m.From with
  | none=>
   rw [hF,Option.map_none] at hid;rw [hid];refine ⟨((Jj.mk [] []),9),rfl, ?_,h0⟩;dsimp only;rw [Qj (r:=.inl ()) (by unfold Uh; rw [decide_eq_false (show ¬ (0:Int) <= -1 by omega),Bool.and_false,cond_false])]
   rfl
  | some i=>
   rw [hF,aZ] at hid;have hi:=Jxn hF;rw [hid];simp only [Option.isSome_some,aY,cond_false,dZ];have hkT:=aB hi;generalize c.Tracks[i]=k at hkT;have hse:=aB (show i<c.Sessions.length by omega);generalize c.Sessions[i]'(by omega)=se at hse;have hkm:=aD hkT;obtain ⟨ix,ie,hix⟩:=Kee (m:=m) hT;obtain ⟨tk,t1,t2⟩:=Jx5 se m now;rw [ie,aA];have lenS:(((c.Sessions:List Jk).map cellsOf).length)=c.Sessions.length:=aS _;rcases hix with ⟨rfl,hno⟩|⟨j,x,rfl,hx,hxe,hmin⟩
   ·refine ⟨((Jj.mk [] []),9),rfl, ?_,h0⟩;obtain ⟨r,e,rfl⟩:=Jgx (l:=l) (t:=t) (c:=c) (m:=m) (now:=now) (i:=i) hT (K:=fun _=>some ((Jj.mk [] []),9)) (ψ:=fun r=>r=((Jj.mk [] []),9)) (fun _=>Is.val rfl) fun j x hx hxe _=>absurd hxe (hno x (aD hx));exact e
   ·obtain ⟨rp,p1,p2,p3⟩:=Jr8 (l:=l) (t:=t) (k:=k) hO (hc.each k hkm) rfl (hok k hkm) (hpr k hkm).1 (hpr k hkm).2 (htr x (aD hx)) hM.2.2.2.2.2;rw [decide_eq_false (show ¬ ((j:Nat):Int)<0 by omega),cond_false,Qm hse,aA,t1,aA];have huniq:∀ (j':Nat) (x':Jr),trains[j']? = some x'->x'.Id=m.From->(∀ q y,q<j'->trains[q]? = some y->y.Id≠m.From)->j'=j/\x'=x:=fun j' x' h1 h2 h3=>by
     have:j'=j:=by
      rcases Nat.lt_trichotomy j j' with h|h|h
      ·exact absurd hxe (h3 j x h hx)
      ·exact h.symm
      ·exact absurd h2 (hmin j' x' h h1)
     subst this;rw [hx] at h1; cases h1;exact ⟨rfl,rfl⟩
    have hjl:=Qo hx;cases h2:decide (tk.2=0) with
    | false=>
     refine ⟨((Jj.mk [] []),tk.2),rfl, ?_,h0⟩;obtain ⟨r,e,rfl⟩:=Jgx (l:=l) (t:=t) (c:=c) (m:=m) (now:=now) (i:=i) hT (K:=fun _=>some ((Jj.mk [] []),9)) (ψ:=fun r=>r=((Jj.mk [] []),tk.2)) (fun hn=>absurd hxe (hn x (aD hx))) fun j' x' a1 a2 a3=>by
      obtain ⟨rfl,rfl⟩:=huniq j' x' a1 a2 a3;unfold Uh;rw [decide_eq_true (show ((j':Nat):Int)<((trains.length:Nat):Int) by omega),decide_eq_true (show (0:Int)<=(i:Int) by omega),dQ,cond_true,Qm hx,aA,decide_eq_true hxe,cond_true,Qm hse,aA,t2,aA,h2];exact Is.val ⟨_,rfl,rfl⟩
     exact e
    | true=>
     refine ⟨((Jj.mk (c.Tracks.set i rp) (c.Sessions.set i tk.1)),0), ?_, ?_,Jkx.set hc p3 _ (by rw [eD])⟩
     ·refine isE ?_;simp only [aY,cond_false];refine Is.bind (φ:=fun y=>y=(c.Tracks,c.Tracks.length,c.Sessions)) ?_ fun y hy=>?_
      ·refine Is.to (Keq hc.tr) ?_;refine Is.onInl (θ:=fun o=>o=.inl c.Tracks) (Is.eq (Kcq hc.tr hc.each)) (fun v hv=>?_) (fun b hb=>by cases hb);cases hv;rw [Kbq hc.se,aA];exact Is.val sG
      ·subst hy;dsimp only;rw [Jzd 0 (by rw [lenS]; omega),aA,Jxb lenS.symm,aV,hse,aA,Qm hx,aA,Jzd 0 hi,aA,Jxb rfl,aV,hkT,aA,p1,aA,aA,Jxb rfl,hkT,aA];exact Is.val rfl
     ·obtain ⟨r,e,rfl⟩:=Jgx (l:=l) (t:=t) (c:=c) (m:=m) (now:=now) (i:=i) hT (K:=fun _=>some ((Jj.mk [] []),9)) (ψ:=fun r=>r=((Jj.mk (c.Tracks.set i rp) (c.Sessions.set i tk.1)),0)) (fun hn=>absurd hxe (hn x (aD hx))) fun j' x' a1 a2 a3=>by
       obtain ⟨rfl,rfl⟩:=huniq j' x' a1 a2 a3;unfold Uh;rw [decide_eq_true (show ((j':Nat):Int)<((trains.length:Nat):Int) by omega),decide_eq_true (show (0:Int)<=(i:Int) by omega),dQ,cond_true,Qm hx,aA,decide_eq_true hxe,cond_true,Qm hse,aA,t2,aA,h2];simp only [aY,cond_false];rw [Qm hkT,aA,aA,p2,aA,Kbr hc.tr hc.se hi oG,aA];exact Is.val ⟨_,rfl,rfl⟩
      exact e
end
theorem Jku{x:Jv}(h:Jy9 x){m:Jo}(now:Int)(hT:x.Trains.length<=1048576):Wv x m now=some true:=by
 have:Is (Wv x m now) fun b=>b=true:=by
  unfold Wv;rw [Jvp];refine (Jy0 h).bind fun r1 h1=>?_;refine Is.bind (φ:=fun b=>b=true↔(r1=false\/200<m.Auth.Profile.length)) (Is.or sG fun _=>Is.val (by rw [decide_eq_true_iff]; omega)) fun b2 h2=>?_;refine Is.bind (φ:=fun b=>b=true↔((r1=false\/200<m.Auth.Profile.length)\/100<m.Auth.Links.length)) (Is.or h2 fun _=>Is.val (by rw [decide_eq_true_iff]; omega)) fun b3 h3=>?_;refine Is.ite h3 (fun _=>Is.val rfl) fun hn=>?_;have hr1:r1=true:=by cases r1 with
   | true=>rfl
   | false=>exact absurd (.inl (.inl rfl)) hn
  have hp:m.Auth.Profile.length<=1000:=by
   have:¬ 200<m.Auth.Profile.length:=fun q=>hn (.inl (.inr q));omega
  have hl:m.Auth.Links.length<=1000:=by
   have:¬ 100<m.Auth.Links.length:=fun q=>hn (.inr q);omega
  obtain ⟨hO,hF,_,_,_,hok,_,hpr,htr⟩:=h1 hr1;obtain ⟨r,e1,e2,g⟩:=Jqe (l:=x.Layout) (t:=x.Table) hO hT htr hF hok hpr hp hl now;rw [e1,e2];simp only [aA,Jtf g,decide_true,Bool.and_self,cond_true];exact Is.val rfl
 obtain ⟨b,h1,rfl⟩:=this;exact h1
end PM
