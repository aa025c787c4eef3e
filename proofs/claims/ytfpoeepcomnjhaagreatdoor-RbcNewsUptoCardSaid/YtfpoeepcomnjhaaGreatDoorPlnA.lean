/-
 Plain laws, joined: WalkA WalkB WalkC WalkD WalkE WalkG WalkH WalkI WalkJ WalkK LayA LayB LayC LayD LayE BodyB BodyC BodyD BodyE ClmA LnkA RbcA RbcB.
-/
import Derived.Test.YtfpoeepcomnjhaaGreatDoorPlA
import Derived.Test.YtfpoeepcomnjhaaGreatDoorDen
namespace PM
open Go Go.RowKit
def Jt5 (a0 a1 a2:Int):Int×Bool :=
 match Qn.find? (fun x=>decide (x.kind_=a0)&&decide (x.in_=a1)&&decide (x.out_=a2)) with
 | some x=>(x.need_,true)
 | none=>(0,false)
def Kd8 (a0 a1:Int):List Int :=
 if a0=1∧a1=0 then [1] else if a0=1∧a1=1 then [0] else
 if a0=2∧a1=0 then [1,2] else if a0=2∧a1=1 then [0] else if a0=2∧a1=2 then [0] else
 if a0=3∧a1=0 then [1] else if a0=3∧a1=1 then [0] else if a0=3∧a1=2 then [3] else if a0=3∧a1=3 then [2] else []
def Jcx (a0:Int):Int:=if a0=1 then 2 else if a0=2 then 3 else if a0=3 then 4 else 0
theorem Kea (a:Int):a=1∨a=2∨a=3∨(¬ a=1∧¬ a=2∧¬ a=3∧¬ 1=a∧¬ 2=a∧¬ 3=a):=by omega
theorem Jjp (a:Int):a=0∨a=1∨a=2∨a=3∨(¬ a=0∧¬ a=1∧¬ a=2∧¬ a=3∧¬ 0=a∧¬ 1=a∧¬ 2=a∧¬ 3=a):=by omega
set_option maxRecDepth 10000
theorem Jov (a0 a1 a2:Int):Mb a0 a1 a2=some (Jt5 a0 a1 a2):=by
 unfold Mb Jt5;rw [Ja5 (fun x=>decide (x.kind_=a0)&&decide (x.in_=a1)&&decide (x.out_=a2)) (fun x=>.inr (x.need_,true)) (.inl ()) Qn (by decide)]
 ·cases Qn.find? (fun x=>decide (x.kind_=a0)&&decide (x.in_=a1)&&decide (x.out_=a2)) <;> rfl
 ·intro i x h;have hi:i<10:=Wj h;simp only [Ow,Ha h,show decide ((i:Int)<10)=true by simp; omega,cond_true,Option.bind_some]
 ·simp [Ow,Qn]
theorem Jlt (a0 a1 a2:Int):Cc a0 a1 a2=some (Jt5 a0 a1 a2):=by
 unfold Cc Jt5;rcases Kea a0 with rfl|rfl|rfl|⟨h1,h2,h3,h4,h5,h6⟩
 ·simp [Qn,Bool.cond_eq_ite];rcases Jjp a1 with rfl|rfl|rfl|rfl|⟨g0,g1,g2,g3,g4,g5,g6,g7⟩ <;> rcases Jjp a2 with rfl|rfl|rfl|rfl|⟨e0,e1,e2,e3,e4,e5,e6,e7⟩ <;> simp [*] <;> omega
 ·simp [Qn,Bool.cond_eq_ite];rcases Jjp a1 with rfl|rfl|rfl|rfl|⟨g0,g1,g2,g3,g4,g5,g6,g7⟩ <;> rcases Jjp a2 with rfl|rfl|rfl|rfl|⟨e0,e1,e2,e3,e4,e5,e6,e7⟩ <;> simp [*] <;> (repeat' split) <;> first|rfl|omega
 ·simp [Qn,Bool.cond_eq_ite];rcases Jjp a1 with rfl|rfl|rfl|rfl|⟨g0,g1,g2,g3,g4,g5,g6,g7⟩ <;> rcases Jjp a2 with rfl|rfl|rfl|rfl|⟨e0,e1,e2,e3,e4,e5,e6,e7⟩ <;> simp [*] <;> omega
 ·simp [Qn, *]
end PM
namespace PM
open Go Go.RowKit
structure Sm (l:Jd):Prop where
 sec:l.Sections.length≤1048576
 el:l.Elements.length≤1048576
 jo:l.Joints.length≤1048576
 sg:l.Signals.length≤1048576
 ba:l.Balises.length≤1048576
 nm:l.Name.size≤1048576
 secn:∀ x∈l.Sections,x.size≤1048576
 eln:∀ x∈l.Elements,x.Name.size≤1048576
 sgn:∀ x∈l.Signals,x.Name.size≤1048576
theorem Ly (x y:Jo):Kj x y=true↔x=y:=by
 cases x; cases y; simp [Kj]
def Wq (l:Jd) (e:Jo):Jo×Bool :=
 match l.Joints.find? fun j=>Kj j.A e||Kj j.B e with
 | some j=>(bif Kj j.A e then j.B else j.A,true)
 | none=>(⟨0,0⟩,false)
theorem Jjz {l:Jd} (h:l.Joints.length≤1048576) (e:Jo):Eg l e=some (Wq l e):=by
 unfold Eg Wq;rw [Ja5 (fun j=>Kj j.A e||Kj j.B e) (fun j=>.inr (bif Kj j.A e then j.B else j.A,true)) (.inl ()) l.Joints (by omega)]
 ·cases l.Joints.find? (fun j=>Kj j.A e||Kj j.B e) <;> rfl
 ·intro i x hx;have hi:=Wj hx;simp only [Fd,Ha hx,show decide ((i:Int)<((l.Joints.length:Nat):Int))=true by simp; omega,cond_true,Option.bind_some];cases Kj x.A e <;> cases Kj x.B e <;> rfl
 ·simp [Fd]
theorem Jdn {l:Jd} (h:l.Joints.length≤1048576) (e:Jo):Wf l e=some (Wq l e):=by
 unfold Wf Wq;rw [Ja5 (fun j=>Kj j.A e||Kj j.B e) (fun j=>.inr (bif Kj j.A e then j.B else j.A,true)) (.inl ()) l.Joints (by omega)]
 ·cases l.Joints.find? (fun j=>Kj j.A e||Kj j.B e) <;> rfl
 ·intro i x hx;have hi:=Wj hx;simp only [Gy,Ha hx,show decide ((i:Int)<((l.Joints.length:Nat):Int))=true by simp; omega,cond_true,Option.bind_some];cases Kj x.A e <;> cases Kj x.B e <;> rfl
 ·simp [Gy]
theorem Jin {l:Jd} (h:l.Joints.length≤1048576) (s:Jh):Cy s l=some (Wq l ⟨s.El,s.Out⟩):=by
 simp [Cy,Jjz h]
theorem Jpi {l:Jd} (h:l.Joints.length≤1048576) (s:Jh):Cd l s=some (Wq l ⟨s.El,s.Out⟩):=by
 simp [Cd,Jdn h]
def Ve (l:Jd) (i:Int):Bool:=decide (0≤i)&&decide (i<((l.Elements.length:Nat):Int))
theorem Tn (l:Jd) (i:Int):Zh l i=some (Ve l i):=by
 unfold Zh Ve;cases decide (0≤i) <;> simp
theorem Rq (l:Jd) (i:Int):Yb l i=some (Ve l i):=by
 unfold Yb Ve;cases decide (0≤i) <;> simp
theorem Vv {l:Jd} {i:Int} (h:Ve l i=true):∃ x,ixO l.Elements i=some x∧l.Elements[i.toNat]? = some x:=by
 simp only [Ve,Bool.and_eq_true,decide_eq_true_eq] at h;obtain ⟨x,h1,h2⟩:=Is.ix (L:=l.Elements) h.1 h.2;exact ⟨x,h1,h2⟩
def branS (l:Jd) (a:Jo):List Jh :=
 bif Ve l a.El then match l.Elements[a.El.toNat]? with
  | some x=>(Kd8 x.Kind a.Side).map fun o=>⟨a.El,a.Side,o⟩
  | none=>[]
 else []
def Jq4 (l:Jd) (s:Jh):Int×Bool :=
 bif Ve l s.El then match l.Elements[s.El.toNat]? with
  | some x=>Jt5 x.Kind s.In s.Out
  | none=>(0,false)
 else (0,false)
theorem Jjq (l:Jd) (s:Jh):Ef l s=some (Jq4 l s):=by
 unfold Ef Jq4;rw [Tn];simp only [Option.bind_some];cases h:Ve l s.El with
 | false=>rfl
 | true =>
  obtain ⟨x,h1,h2⟩:=Vv h;simp [h1,h2,Jov]
end PM
namespace PM
open Go Go.RowKit
def lenOf (l:Jd) (s:Jh):Int:=bif Ve l s.El then ((l.Elements[s.El.toNat]?).map (·.Length)).getD 0 else 0
def Ck (l:Jd):List Jh→Int
 | []=>0
 | s::r=>lenOf l s+Ck l r
theorem Re (l:Jd):∀ a b:List Jh,Ck l (a++b)=Ck l a+Ck l b
 | [],b=>by simp [Ck]
 | s::r,b=>by simp only [List.cons_append,Ck,Re l r b]; omega
theorem Th (l:Jd) (way:List Jh) (h:way.length≤1048576):Cm l way=some (w64 (Ck l way)):=by
 unfold Cm;have:Is (Ki (Ei l way) (0,0)) fun o=>o=.inl (w64 (Ck l way)):=by
  refine Is.loop (mk:=fun (i:Nat) (x:Int)=>(x,(i:Int))) way.length (fun i x=>x=w64 (Ck l (way.take i))) 0 rfl ?_ ?_
  ·rintro i x hi rfl;unfold Ei;refine Is.cond (fun _=>?_) (fun hb=>by simp at hb; omega);refine Is.onInl (θ:=fun o=>o=.inl (w64 (Ck l (way.take (i+1))))) ?_ ?_ ?_
   ·refine Is.bind (Is.ixn hi) fun s hs=>?_;have e:Ck l (way.take (i+1))=Ck l (way.take i)+lenOf l s:=by
     rw [List.take_add_one,hs,Option.toList_some,Re]; simp [Ck]
    rw [Tn];refine Is.bind (Is.eq rfl) fun b hb=>?_;refine Is.cond (fun hb'=>?_) (fun hb'=>?_)
    ·subst hb;obtain ⟨x,h1,h2⟩:=Vv hb';refine Is.bind (Is.eq h1) fun y hy=>?_;subst hy;refine Is.val ?_;rw [e,Jrd];simp [lenOf,hb',h2]
    ·subst hb;refine Is.val ?_;rw [e];simp [lenOf,hb']
   ·rintro v hv;cases hv;exact Is.val ⟨_,by rw [Pv (by omega)],rfl⟩
   ·intro b hb; cases hb
  ·rintro x rfl;unfold Ei;refine Is.cond (fun hb=>by simp at hb) (fun _=>Is.val ?_);rw [List.take_length]
 obtain ⟨o,h1,rfl⟩:=this;simp [h1,onInl,Jbd]
def Ru (l:Jd) (way:List Jh) (i:Nat):Prop :=
 ∃ s,way[i]? = some s∧(Jq4 l s).2=true∧(∀ k t,k<i→way[k]? = some t→t.El≠s.El)∧(∀ p,0<i→way[i - 1]? = some p→Wq l ⟨p.El,p.Out⟩=(⟨s.El,s.In⟩,true))
def Cz (l:Jd) (way:List Jh):Prop:=1≤way.length∧way.length≤64∧∀ i,i<way.length→Ru l way i
theorem Kaf (s:Jh) (L:List Jh) (h:L.length≤1048576):Is (Ki (Ga s L) 0) fun o=>match o with
  | .inl _=>∀ t∈L,t.El≠s.El
  | .inr x=>x=.inr (.inr (.inr false))∧∃ t∈L,t.El=s.El:=by
 refine Is.loop (mk:=fun (i:Nat) (_:Unit)=>(i:Int)) L.length (fun i _=>∀ k t,k<i→L[k]? = some t→t.El≠s.El) () (fun k t hk=>by omega) ?_ ?_
 ·rintro i m hi hI;unfold Ga;refine Is.cond (fun _=>?_) (fun hb=>by simp at hb; omega);refine Is.bind (Is.ixn hi) fun t ht=>?_;refine Is.cond (fun hb=>?_) (fun hb=>?_)
  ·exact Is.val ⟨rfl,t,List.mem_of_getElem? ht,by simpa using hb⟩
  ·refine Is.val ⟨(),by rw [Pv (by omega)],fun k u hk hu=>?_⟩
   by_cases e:k=i
   ·subst e; rw [ht] at hu; cases hu; simpa using hb
   ·exact hI k u (by omega) hu
 ·rintro m hI;unfold Ga;refine Is.cond (fun hb=>by simp at hb) (fun _=>Is.val ?_);intro t ht;obtain ⟨k,hk⟩:=List.getElem?_of_mem ht;exact hI k t (List.getElem?_eq_some_iff.1 hk).1 hk
theorem Jpj (l:Jd) (way:List Jh) (hl:l.Joints.length≤1048576) (h:way.length≤1048576):Is (Cf l way) fun b=>b=true↔Cz l way:=by
 unfold Cf;refine Is.bind (φ:=fun b=>b=true↔(way.length=0∨64<way.length)) ?_ fun b hb=>?_
 ·refine Is.cond (fun hb=>Is.val ?_) (fun hb=>Is.val ?_)
  ·have:((way.length:Nat):Int)=0:=of_decide_eq_true hb;simp only [true_iff]; omega
  ·have:¬ ((way.length:Nat):Int)=0:=of_decide_eq_false hb;rw [decide_eq_true_iff]; omega
 refine Is.cond (fun hb'=>Is.val ?_) (fun hb'=>?_)
 ·have:=hb.1 hb';simp only [Bool.false_eq_true,Cz,false_iff];omega
 ·have hlen:¬ (way.length=0∨64<way.length):=fun e=>by rw [hb.2 e] at hb'; cases hb'
  simp only [Mq];refine Is.bind (Is.eq rfl) fun r hr=>?_;rw [show r=l from hr];refine Is.onInl (θ:=fun o=>match o with|.inl _=>∀ i,i<way.length→Ru l way i|.inr b=>b=false∧∃ i,i<way.length∧¬ Ru l way i) ?_ ?_ ?_
  ·refine Is.loop (mk:=fun (i:Nat) (_:Unit)=>(i:Int)) way.length (fun i _=>∀ j,j<i→Ru l way j) () (fun j hj=>by omega) ?_ ?_
   ·rintro i m hi hI;unfold Nc;refine Is.cond (fun _=>?_) (fun hb=>by simp at hb; omega);refine Is.onInl (θ:=fun o=>match o with|.inl _=>Ru l way i|.inr x=>x=.inr (.inr false)∧¬ Ru l way i) ?_ ?_ ?_
    ·refine Is.bind (Is.ixn hi) fun s hs=>?_;rw [Jjq];refine Is.bind (Is.eq rfl) fun r hr=>?_;subst hr;have bad:∀ {q:Prop},(Ru l way i→q)→¬ q→¬ Ru l way i:=fun h1 h2 h3=>h2 (h1 h3);refine Is.cond (fun hb=>Is.val ⟨rfl, ?_⟩) (fun hb=>?_)
     ·rintro ⟨s',h1,h2,_⟩;rw [hs] at h1; cases h1;rw [h2] at hb; cases hb
     ·have hpos:(Jq4 l s).2=true:=by simpa using hb
      rw [Jut (Nat.le_of_lt hi)];refine Is.bind (Is.eq rfl) fun L hL=>?_;subst hL;refine Is.onInl (Kaf s (way.take i) (by simp; omega)) ?_ ?_
      ·rintro v hv;have hd:∀ k t,k<i→way[k]? = some t→t.El≠s.El:=fun k t hk ht=>hv t (List.mem_of_getElem? (i:=k) (by rw [List.getElem?_take,if_pos hk]; exact ht));refine Is.cond (fun h0=>Is.val ?_) (fun h0=>?_)
       ·have:i=0:=by
         have:(i:Int)=0:=by simpa using h0
         omega
        exact ⟨s,hs,hpos,hd,fun p hp=>by omega⟩
       ·have hi0:i≠0:=by
         have:¬ (i:Int)=0:=by simpa using h0
         omega
        have e:w64 ((i:Int) - 1)=((i - 1:Nat):Int):=by rw [Dn (by omega) (by omega)]; omega
        rw [e];refine Is.bind (Is.ixn (by omega)) fun p hp=>?_;rw [Jin hl];refine Is.bind (Is.eq rfl) fun r hr=>?_;subst hr;refine Is.cond (fun hb=>Is.val ⟨rfl, ?_⟩) (fun hb=>Is.val ⟨s,hs,hpos,hd,fun p' _ hp'=>?_⟩)
        ·rintro ⟨s',h1,_,_,h4⟩;rw [hs] at h1; cases h1;rw [h4 p (by omega) hp] at hb;simp at hb
        ·rw [hp] at hp'; cases hp';simp at hb;obtain ⟨⟨h5,h6⟩,h7⟩:=hb;cases hq:Wq l ⟨p.El,p.Out⟩ with
         | mk e z =>
          cases e;rw [hq] at h5 h6 h7
          simp_all
      ·rintro x ⟨rfl,t,ht,he⟩;refine ⟨rfl, ?_⟩;rintro ⟨s',h1,_,h3,_⟩;rw [hs] at h1; cases h1;obtain ⟨k,hk⟩:=List.getElem?_of_mem ht;rw [List.getElem?_take] at hk;split at hk
       ·rename_i hki; exact h3 k t hki hk he
       ·cases hk
    ·rintro v hv;refine Is.val ⟨(),by rw [Pv (by omega)],fun j hj=>?_⟩
     by_cases e:j=i
     ·subst e; exact hv
     ·exact hI j (by omega)
    ·rintro x ⟨rfl,hv⟩;exact ⟨rfl,i,hi,hv⟩
   ·rintro m hI;unfold Nc;refine Is.cond (fun hb=>by simp at hb) (fun _=>Is.val ?_);exact hI
  ·rintro v hv;refine Is.val ?_;simp only [true_iff,Cz];exact ⟨by omega,by omega,hv⟩
  ·rintro b ⟨rfl,i,hi,hn⟩;simp only [Bool.false_eq_true,false_iff,Cz];exact fun e=>hn (e.2.2 i hi)
end PM
namespace PM
open Go Go.RowKit
theorem Jn6 (a0:Int):Eo a0=some (Jcx a0):=by
 unfold Eo Jcx;simp [Bool.cond_eq_ite]
 (repeat' split) <;> simp_all
def exS (l:Jd) (e:Jo):Bool :=
 Ve l e.El&&decide (0≤e.Side)&&(match l.Elements[e.El.toNat]? with|some x=>decide (e.Side<Jcx x.Kind)|none=>false)
theorem Jdq (l:Jd) (e:Jo):Ba l e=some (exS l e):=by
 unfold Ba exS;have h1:((bif decide (0≤e.El) then (some (decide (e.El<((l.Elements.length:Nat):Int)))) else some false):Option Bool)=some (Ve l e.El):=by
  unfold Ve; cases decide (0≤e.El) <;> simp
 rw [h1];simp only [Option.bind_some];cases h:Ve l e.El with
 | false=>rfl
 | true =>
  obtain ⟨x,h2,h3⟩:=Vv h;cases decide (0≤e.Side) with
  | false=>rfl
  | true=>simp [h2,h3,Jn6]
theorem Juy {α:Type} {l:List α} {x:α}:(l++[x]).Nodup↔l.Nodup∧∀ y∈l,y≠x:=by
 rw [List.nodup_append];simp
theorem Bv {α:Type} {L:List α} {i:Nat} {x:α} (h:L[i]? = some x):L.take (i+1)=L.take i++[x]:=by rw [List.take_add_one,h]; rfl
theorem Jmq {l:Jd} (h:Sm l):Is (Hn l) fun r=>r.x0=l.Sections∧r.x1=l.Elements.map (·.Name)∧r.x2=l.Signals.map (·.Name):=by
 unfold Hn;have h1:=h.sec; have h2:=h.el; have h3:=h.sg;refine Is.bind (Is.app (by simp only [List.length_nil,Kx,Enc.b]; omega)) fun x1 hx1=>?_;refine Is.onInl (θ:=fun o=>o=.inl (l.Elements.map (·.Name))) ?_ ?_ (fun b hb=>by cases hb)
 ·refine Is.loop (mk:=fun (i:Nat) (m:List ByteArray)=>((i:Int),m)) l.Elements.length (fun i m=>m=(l.Elements.take i).map (·.Name)) [] rfl ?_ ?_
  ·rintro i m hi rfl;unfold Il;refine Is.cond (fun _=>?_) (fun hb=>by simp at hb; omega);refine Is.bind (Is.ixn hi) fun x hx=>?_;refine Is.bind (Is.app ?_) fun M hM=>?_
   ·simp only [List.length_map,List.length_take,List.length_cons,List.length_nil,Kx,Enc.b]; omega
   ·subst hM;exact Is.val ⟨_,by rw [Pv (by omega)],by rw [List.take_add_one,hx]; simp⟩
  ·rintro m rfl;unfold Il;exact Is.cond (fun hb=>by simp at hb) (fun _=>Is.val (by rw [List.take_length]))
 ·rintro v hv;cases hv;refine Is.onInl (θ:=fun o=>o=.inl (l.Signals.map (·.Name))) ?_ ?_ (fun b hb=>by cases hb)
  ·refine Is.loop (mk:=fun (i:Nat) (m:List ByteArray)=>((i:Int),m)) l.Signals.length (fun i m=>m=(l.Signals.take i).map (·.Name)) [] rfl ?_ ?_
   ·rintro i m hi rfl;unfold Iq;refine Is.cond (fun _=>?_) (fun hb=>by simp at hb; omega);refine Is.bind (Is.ixn hi) fun x hx=>?_;refine Is.bind (Is.app ?_) fun M hM=>?_
    ·simp only [List.length_map,List.length_take,List.length_cons,List.length_nil,Kx,Enc.b]; omega
    ·subst hM;exact Is.val ⟨_,by rw [Pv (by omega)],by rw [List.take_add_one,hx]; simp⟩
   ·rintro m rfl;unfold Iq;exact Is.cond (fun hb=>by simp at hb) (fun _=>Is.val (by rw [List.take_length]))
  ·rintro v hv;cases hv;exact Is.val ⟨by rw [hx1,List.nil_append],rfl,rfl⟩
def Wg (L:List Qu):List Jo:=L.flatMap fun j=>[j.A,j.B]
theorem Jld (L:List Qu) (j:Qu):Wg (L++[j])=Wg L++[j.A,j.B]:=by simp [Wg]
def Jv4 (l:Jd):Prop:=(∀ j∈l.Joints,exS l j.A=true∧exS l j.B=true)∧(Wg l.Joints).Nodup
theorem Jwj {l:Jd} {e:Jo} (h:exS l e=true):Ve l e.El=true:=by
 simp only [exS,Bool.and_eq_true] at h; exact h.1.1
theorem Jyw {l:Jd} (hJ:Jv4 l) {e f:Jo} (h:Wq l e=(f,true)):exS l f=true:=by
 unfold Wq at h;split at h
 ·rename_i j hj;have hm:=hJ.1 j (List.mem_of_find?_eq_some hj);cases hA:Kj j.A e <;> rw [hA] at h <;> simp at h <;> subst h
  ·exact hm.1
  ·exact hm.2
 ·simp at h
end PM
namespace PM
open Go Go.RowKit
end PM
namespace PM
open Go Go.RowKit
end PM
namespace PM
open Go Go.RowKit
theorem Jmx {α:Type} {p:List α→Prop} (h0:p []) (h1:∀ l x,p l→p (l++[x])) (l:List α):p l:=by
 have key:∀ m:List α,p m.reverse:=by
  intro m;induction m with
  | nil=>exact h0
  | cons x m ih=>rw [List.reverse_cons]; exact h1 _ _ ih
 have:=key l.reverse
 rwa [List.reverse_reverse] at this
section
variable {α:Type} [DecidableEq α]
theorem Jgl {lt:α→α→Bool} (ir:∀ x,lt x x=false) (tr:∀ x y z,lt x y=true→lt y z=true→lt x z=true):∀ (a b:List α),a.Pairwise (fun x y=>lt x y=true)→b.Pairwise (fun x y=>lt x y=true)→(∀ x,x∈a↔x∈b)→a=b
 | [],[],_,_,_=>rfl
 | [],y::b,_,_,h=>absurd ((h y).2 (by simp)) (by simp)
 | x::a,[],_,_,h=>absurd ((h x).1 (by simp)) (by simp)
 | x::a,y::b,ha,hb,h=>by
  rw [List.pairwise_cons] at ha hb;have hxy:x=y:=by
   have h1:=(h x).1 (by simp);have h2:=(h y).2 (by simp);rcases List.mem_cons.1 h1 with e|h1
   ·exact e
   ·rcases List.mem_cons.1 h2 with e|h2
    ·exact e.symm
    ·have:=tr _ _ _ (hb.1 x h1) (ha.1 y h2);rw [ir] at this; cases this
  subst hxy;have hnx:∀ {l:List α},(∀ z∈l,lt x z=true)→x∉l:=fun hl hm=>by
   have:=hl x hm;rw [ir] at this; cases this
  rw [Jgl ir tr a b ha.2 hb.2 fun z=>?_]
  by_cases hz:z=x
  ·subst hz; exact ⟨fun q=>absurd q (hnx ha.1),fun q=>absurd q (hnx hb.1)⟩
  ·have:=h z
   simpa [hz] using this
end
end PM
namespace PM
open Go Go.RowKit
theorem Jpc (l:Jd) (s:Jh):Gm l s=some (Jq4 l s):=by
 unfold Gm Jq4;rw [Rq];simp only [Option.bind_some];cases h:Ve l s.El with
 | false=>rfl
 | true =>
  obtain ⟨x,h1,h2⟩:=Vv h;simp [h1,h2,Jlt]
theorem Jnb (way:List Jh) (h:way.length≤1048576) {i:Nat} {s:Jh} (hs:way[i]? = some s):Is (Ki (Ej way i) 0) fun o=>match o with
  | .inl _=>∀ k t,k<i→way[k]? = some t→t.El≠s.El
  | .inr x=>x=.inr (.inr false)∧∃ k t,k<i∧way[k]? = some t∧t.El=s.El:=by
 have hi:=Wj hs;refine Is.loop (mk:=fun (i:Nat) (_:Unit)=>(i:Int)) i (fun j _=>∀ k t,k<j→way[k]? = some t→t.El≠s.El) () (fun k t hk=>by omega) ?_ ?_
 ·rintro j m hj hI;unfold Ej;refine Is.cond (fun _=>?_) (fun hb=>by simp at hb; omega);refine Is.bind (Is.ixn (Nat.lt_trans hj hi)) fun t ht=>Is.bind (Is.ixn hi) fun u hu=>?_;rw [hs] at hu; cases hu;refine Is.cond (fun hb=>?_) (fun hb=>?_)
  ·exact Is.val ⟨rfl,j,t,hj,ht,by simpa using hb⟩
  ·refine Is.val ⟨(),by rw [Pv (by omega)],fun k u hk hu=>?_⟩
   by_cases e:k=j
   ·subst e; rw [ht] at hu; cases hu; simpa using hb
   ·exact hI k u (by omega) hu
 ·rintro m hI;unfold Ej;exact Is.cond (fun hb=>by simp at hb) (fun _=>Is.val hI)
theorem Jmw (l:Jd) (way:List Jh) (hl:l.Joints.length≤1048576) (h:way.length≤1048576):Is (Et l way) fun b=>b=true↔Cz l way:=by
 unfold Et;refine Is.bind (φ:=fun b=>b=true↔(way.length=0∨64<way.length)) ?_ fun b hb=>?_
 ·refine Is.cond (fun hb=>Is.val ?_) (fun hb=>Is.val ?_)
  ·have:((way.length:Nat):Int)=0:=of_decide_eq_true hb;simp only [true_iff]; omega
  ·have:¬ ((way.length:Nat):Int)=0:=of_decide_eq_false hb;rw [decide_eq_true_iff]; omega
 refine Is.cond (fun hb'=>Is.val ?_) (fun hb'=>?_)
 ·have:=hb.1 hb';simp only [Bool.false_eq_true,Cz,false_iff];omega
 ·have hlen:¬ (way.length=0∨64<way.length):=fun e=>by rw [hb.2 e] at hb'; cases hb'
  refine Is.onInl (θ:=fun o=>match o with|.inl _=>∀ i,i<way.length→Ru l way i|.inr b=>b=false∧∃ i,i<way.length∧¬ Ru l way i) ?_ ?_ ?_
  ·refine Is.loop (mk:=fun (i:Nat) (_:Unit)=>(i:Int)) way.length (fun i _=>∀ j,j<i→Ru l way j) () (fun j hj=>by omega) ?_ ?_
   ·rintro i m hi hI;unfold Iv;refine Is.cond (fun _=>?_) (fun hb=>by simp at hb; omega);refine Is.bind (Is.ixn hi) fun s hs=>?_;rw [Jpc];refine Is.bind (Is.eq rfl) fun r hr=>?_;subst hr;refine Is.cond (fun hb=>Is.val ⟨rfl,i,hi, ?_⟩) (fun hb=>?_)
    ·rintro ⟨s',h1,h2,_⟩;rw [hs] at h1; cases h1;rw [h2] at hb; cases hb
    have hpos:(Jq4 l s).2=true:=by simpa using hb
    refine Is.onInl (θ:=fun o=>match o with|.inl _=>(∀ p,0<i→way[i - 1]? = some p→Wq l ⟨p.El,p.Out⟩=(⟨s.El,s.In⟩,true))|.inr x=>x=.inr (.inr false)∧¬ Ru l way i) ?_ ?_ ?_
    ·refine Is.cond (fun h0=>?_) (fun h0=>Is.val fun p hp=>?_)
     ·have hi0:0<i:=by
       have:(0:Int)<i:=of_decide_eq_true h0;omega
      have e:w64 ((i:Int) - 1)=((i - 1:Nat):Int):=by rw [Dn (by omega) (by omega)]; omega
      rw [e];refine Is.bind (Is.ixn (by omega)) fun p hp=>?_;rw [Jpi hl];refine Is.bind (Is.eq rfl) fun r hr=>?_;subst hr;refine Is.bind (φ:=fun b=>b=true↔((Wq l ⟨p.El,p.Out⟩).2=false∨(Wq l ⟨p.El,p.Out⟩).1.El≠s.El)) ?_ fun b1 hb1=>?_
      ·refine Is.cond (fun hc=>Is.val ?_) (fun hc=>?_)
       ·simp at hc; simp [hc]
       ·simp at hc;refine Is.bind (Is.ixn hi) fun u hu=>Is.val ?_;rw [hs] at hu; cases hu;simp [hc]
      refine Is.bind (φ:=fun b=>b=true↔((Wq l ⟨p.El,p.Out⟩).2=false∨(Wq l ⟨p.El,p.Out⟩).1.El≠s.El∨(Wq l ⟨p.El,p.Out⟩).1.Side≠s.In)) ?_ fun b2 hb2=>?_
      ·refine Is.cond (fun hc=>Is.val ?_) (fun hc=>?_)
       ·rcases hb1.1 hc with e|e <;> simp [e]
       ·have hc':¬ ((Wq l ⟨p.El,p.Out⟩).2=false∨(Wq l ⟨p.El,p.Out⟩).1.El≠s.El):=fun e=>by rw [hb1.2 e] at hc; cases hc
        refine Is.bind (Is.ixn hi) fun u hu=>Is.val ?_;rw [hs] at hu; cases hu;have h1:¬ (Wq l ⟨p.El,p.Out⟩).2=false:=fun e=>hc' (.inl e);have h2:¬ (Wq l ⟨p.El,p.Out⟩).1.El≠s.El:=fun e=>hc' (.inr e);constructor
        ·intro e;exact .inr (.inr (by simpa using e))
        ·rintro (e|e|e)
         ·exact absurd e h1
         ·exact absurd e h2
         ·simpa using e
      refine Is.cond (fun hc=>Is.val ⟨rfl, ?_⟩) (fun hc=>Is.val fun p' _ hp'=>?_)
      ·rintro ⟨s',h1,_,_,h4⟩;rw [hs] at h1; cases h1;have:=h4 p hi0 hp;rcases hb2.1 hc with e|e|e
       ·rw [this] at e; cases e
       ·rw [this] at e; exact e rfl
       ·rw [this] at e; exact e rfl
      ·rw [hp] at hp'; cases hp';have hc':¬ ((Wq l ⟨p.El,p.Out⟩).2=false∨(Wq l ⟨p.El,p.Out⟩).1.El≠s.El∨(Wq l ⟨p.El,p.Out⟩).1.Side≠s.In):=fun e=>by rw [hb2.2 e] at hc; cases hc
       cases hq:Wq l ⟨p.El,p.Out⟩ with
       | mk e z =>
        cases e;rw [hq] at hc'
        simp_all
     ·have:¬ (0:Int)<i:=of_decide_eq_false h0;omega
    ·intro v hv;refine Is.onInl (Jnb way h hs) ?_ ?_
     ·intro w hw;refine Is.val ⟨(),by rw [Pv (by omega)],fun j hj=>?_⟩
      by_cases e:j=i
      ·subst e; exact ⟨s,hs,hpos,hw,hv⟩
      ·exact hI j (by omega)
     ·rintro x ⟨rfl,k,t,hk,ht,he⟩;refine ⟨rfl,i,hi, ?_⟩;rintro ⟨s',h1,_,h3,_⟩;rw [hs] at h1; cases h1;exact h3 k t hk ht he
    ·rintro x ⟨rfl,hn⟩;exact ⟨rfl,i,hi,hn⟩
   ·rintro m hI;unfold Iv;exact Is.cond (fun hb=>by simp at hb) (fun _=>Is.val hI)
  ·rintro v hv;refine Is.val ?_;simp only [true_iff,Cz];exact ⟨by omega,by omega,hv⟩
  ·rintro b ⟨rfl,i,hi,hn⟩;simp only [Bool.false_eq_true,false_iff,Cz];exact fun e=>hn (e.2.2 i hi)
theorem Jl1 (l:Jd) (way:List Jh) (h:way.length≤1048576):Zx l way=some (w64 (Ck l way)):=by
 unfold Zx;have:Is (Ki (Dd l way) (0,0)) fun o=>o=.inl (w64 (Ck l way)):=by
  refine Is.loop (mk:=fun (i:Nat) (x:Int)=>(x,(i:Int))) way.length (fun i x=>x=w64 (Ck l (way.take i))) 0 rfl ?_ ?_
  ·rintro i x hi rfl;unfold Dd;refine Is.cond (fun _=>?_) (fun hb=>by simp at hb; omega);refine Is.onInl (θ:=fun o=>o=.inl (w64 (Ck l (way.take (i+1))))) ?_ ?_ ?_
   ·refine Is.bind (Is.ixn hi) fun s hs=>?_;have e:Ck l (way.take (i+1))=Ck l (way.take i)+lenOf l s:=by
     rw [Bv hs,Re]; simp [Ck]
    rw [Rq];refine Is.bind (Is.eq rfl) fun b hb=>?_;refine Is.cond (fun hb'=>?_) (fun hb'=>?_)
    ·subst hb;refine Is.bind (Is.ixn hi) fun s' hs'=>?_;rw [hs] at hs'; cases hs';obtain ⟨x,h1,h2⟩:=Vv hb';refine Is.bind (Is.eq h1) fun y hy=>?_;subst hy;refine Is.val ?_;rw [e,Jrd];simp [lenOf,hb',h2]
    ·subst hb;refine Is.val ?_;rw [e];simp [lenOf,hb']
   ·rintro v hv;cases hv;exact Is.val ⟨_,by rw [Pv (by omega)],rfl⟩
   ·intro b hb; cases hb
  ·rintro x rfl;unfold Dd;refine Is.cond (fun hb=>by simp at hb) (fun _=>Is.val ?_);rw [List.take_length]
 obtain ⟨o,h1,rfl⟩:=this;simp [h1,onInl,Jbd]
def Jdh (L:List Int):List Int:=L.foldl (fun acc x=>if x∈acc then acc else acc++[x]) []
theorem Jb4 (L:List Int) (x:Int):Jdh (L++[x])=if x∈Jdh L then Jdh L else Jdh L++[x]:=by
 unfold Jdh;rw [List.foldl_append]
 rfl
theorem Jxj (L:List Int) (y:Int):y∈Jdh L↔y∈L:=by
 induction L using Jmx with
 | h0=>simp [Jdh]
 | h1 l x ih =>
  rw [Jb4];split
  ·rename_i h;rw [ih,List.mem_append,List.mem_singleton];exact ⟨.inl,fun q=>q.elim id fun e=>by subst e; exact ih.1 h⟩
  ·simp [ih]
theorem Jsr (L:List Int):(Jdh L).Nodup:=by
 induction L using Jmx with
 | h0=>simp [Jdh]
 | h1 l x ih =>
  rw [Jb4];split
  ·exact ih
  ·rename_i h;exact Juy.2 ⟨ih,fun y hy e=>h (e▸hy)⟩
theorem Jw2 (L:List Int):(Jdh L).length≤L.length:=by
 induction L using Jmx with
 | h0=>simp [Jdh]
 | h1 l x ih =>
  rw [Jb4];split <;> simp <;> omega
def Ny (l:Jd) (s:Jh):Option Int:=bif Ve l s.El then (l.Elements[s.El.toNat]?).map (·.Section) else none
def Lj (l:Jd) (way:List Jh):List Int:=Jdh (way.filterMap (Ny l))
theorem Jp4 (l:Jd) (way:List Jh) (s:Jh):Lj l (way++[s])=match Ny l s with|some x=>if x∈Lj l way then Lj l way else Lj l way++[x]|none=>Lj l way:=by
 unfold Lj;rw [List.filterMap_append,List.filterMap_cons,List.filterMap_nil];cases Ny l s with
 | none=>simp
 | some x=>rw [Jb4]
theorem Jfl (l:Jd) (way:List Jh):(Lj l way).length≤way.length:=Nat.le_trans (Jw2 _) (List.length_filterMap_le _ _)
theorem Jq2 (L:List Int) (x:Int) (h:L.length≤1048576):Pp L x=some (decide (x∈L)):=by
 unfold Pp;rw [Ja5 (fun y=>decide (y=x)) (fun _=>.inr true) (.inl ()) L (by omega)]
 ·cases hf:L.find? (fun y=>decide (y=x)) with
  | none =>
   have:¬ x∈L:=fun hm=>by
    have:=List.find?_eq_none.1 hf x hm;simp at this
   simp [this,onInl,Jbd]
  | some y =>
   have h1:=List.find?_some hf;have h2:=List.mem_of_find?_eq_some hf;simp at h1; subst h1;simp [h2,onInl,Jbd]
 ·intro i y hy;have hi:=Wj hy;simp only [Oy,Ha hy,show decide ((i:Int)<((L.length:Nat):Int))=true by simp; omega,cond_true,Option.bind_some]
 ·simp [Oy]
theorem Jv5 (l:Jd) (way:List Jh) (h:way.length≤1000000):Vu l way=some (Lj l way):=by
 unfold Vu;have:Is (Ki (Zz l way) (0,[])) fun o=>o=.inl (Lj l way):=by
  refine Is.loop (mk:=fun (i:Nat) (m:List Int)=>((i:Int),m)) way.length (fun i m=>m=Lj l (way.take i)) [] rfl ?_ ?_
  ·rintro i m hi rfl;unfold Zz;refine Is.cond (fun _=>?_) (fun hb=>by simp at hb; omega);have hlen:(Lj l (way.take i)).length≤i:=Nat.le_trans (Jfl _ _) (by simp; omega);refine Is.onInl (θ:=fun o=>o=.inl (Lj l (way.take (i+1)))) ?_ ?_ (fun b hb=>by cases hb)
   ·refine Is.bind (Is.ixn hi) fun s hs=>?_;rw [Rq,Bv hs,Jp4];refine Is.bind (Is.eq rfl) fun b hb=>?_;cases hE:Ve l s.El with
    | false =>
     subst hb;rw [hE];exact Is.val (by simp [Ny,hE])
    | true =>
     subst hb;rw [hE];obtain ⟨x,h1,h2⟩:=Vv hE;have hso:Ny l s=some x.Section:=by simp [Ny,hE,h2]
     rw [hso];refine Is.bind (φ:=fun b=>b = !decide (x.Section∈Lj l (way.take i))) (Is.cond (fun _=>?_) (fun e=>by cases e)) fun b hb=>?_
     ·refine Is.bind (Is.ixn hi) fun s' hs'=>?_;rw [hs] at hs'; cases hs';rw [h1];refine Is.bind (Is.eq rfl) fun y hy=>?_;subst hy;rw [Jq2 _ _ (by omega)];exact Is.val rfl
     ·subst hb
      by_cases hm:x.Section∈Lj l (way.take i)
      ·simp only [hm,decide_true,Bool.not_true,cond_false,if_pos];exact Is.val rfl
      ·simp only [hm,decide_false,Bool.not_false,cond_true,if_false];refine Is.bind (Is.ixn hi) fun s' hs'=>?_;rw [hs] at hs'; cases hs';rw [h1];refine Is.bind (Is.eq rfl) fun y hy=>?_;subst hy;refine Is.bind (Is.app ?_) fun M hM=>?_
       ·simp only [List.length_cons,List.length_nil,Kx,Enc.b]; omega
       ·subst hM; exact Is.val rfl
   ·rintro v hv;cases hv;exact Is.val ⟨_,by rw [Pv (by omega)],rfl⟩
  ·rintro m rfl;unfold Zz;exact Is.cond (fun hb=>by simp at hb) (fun _=>Is.val (by rw [List.take_length]))
 obtain ⟨o,h1,rfl⟩:=this;simp [h1,onInl,Jbd]
theorem Jws {κ ν:Type} [Key κ] (m:List (κ×ν)) (k j:κ) (v:ν):Uo (Dj k v m) j=if j=k then some v else Uo m j:=by
 induction m with
 | nil =>
  unfold Dj Uo
  by_cases e:j=k <;> simp [e]
 | cons x r ih =>
  unfold Dj;split
  ·rename_i hk;subst hk;unfold Uo
   by_cases e:j=x.1 <;> simp [e]
  ·rename_i hk;unfold Uo at ih ⊢;rw [List.find?_cons,List.find?_cons]
   by_cases e:j=x.1
   ·simp [e];intro q; exact absurd q.symm hk
   ·simp only [e,decide_false];exact ih
theorem Jki (l:Jd) (way:List Jh) (h:way.length≤1000000):Jc1 l way=some (Lj l way):=by
 unfold Jc1;have:Is (Ki (Fh l way) (0,[],[])) fun o=>o=.inl (Lj l way):=by
  refine Is.loop (mk:=fun (i:Nat) (m:List (Int×Bool)×List Int)=>((i:Int),m.1,m.2)) way.length (fun i m=>m.2=Lj l (way.take i)∧∀ x,(Uo m.1 x).getD false=decide (x∈m.2)) ([],[]) ⟨rfl,fun x=>by simp [Uo]⟩ ?_ ?_
  ·rintro i ⟨seen,m⟩ hi ⟨hm,hM⟩;simp only at hm hM;subst hm;unfold Fh;refine Is.cond (fun _=>?_) (fun hb=>by simp at hb; omega);have hlen:(Lj l (way.take i)).length≤i:=Nat.le_trans (Jfl _ _) (by simp; omega);refine Is.onInl (θ:=fun o=>match o with|.inl q=>q.1=Lj l (way.take (i+1))∧∀ x,(Uo q.2 x).getD false=decide (x∈q.1)|.inr _=>False) ?_ ?_ (fun b hb=>hb.elim)
   ·refine Is.bind (Is.ixn hi) fun s hs=>?_;rw [Tn,Bv hs,Jp4];refine Is.bind (Is.eq rfl) fun b hb=>?_;subst hb;cases hE:Ve l s.El with
    | false =>
     refine Is.val ⟨by simp [Ny,hE],hM⟩
    | true =>
     obtain ⟨x,h1,h2⟩:=Vv hE;have hso:Ny l s=some x.Section:=by simp [Ny,hE,h2]
     rw [hso,h1];show Is (bif !(Uo seen x.Section).getD false then _ else _) _;simp only [hM]
     by_cases hm:x.Section∈Lj l (way.take i)
     ·simp only [hm,decide_true,Bool.not_true,cond_false,if_pos];exact Is.val ⟨rfl,hM⟩
     ·simp only [hm,decide_false,Bool.not_false,cond_true,if_false];refine Is.bind (Is.app ?_) fun M hM'=>?_
      ·simp only [List.length_cons,List.length_nil,Kx,Enc.b]; omega
      ·subst hM';refine Is.val ⟨rfl,fun z=>?_⟩;rw [Jws]
       by_cases e:z=x.Section
       ·simp [e]
       ·rw [if_neg e,hM]; simp [e]
   ·rintro ⟨a,b⟩ ⟨hv,hM'⟩;exact Is.val ⟨(b,a),by rw [Pv (by omega)],hv,hM'⟩
  ·rintro ⟨seen,m⟩ ⟨hm,-⟩;simp only at hm;subst hm;unfold Fh;exact Is.cond (fun hb=>by simp at hb) (fun _=>Is.val (by rw [List.take_length]))
 obtain ⟨o,h1,rfl⟩:=this;simp [h1,onInl,Jbd]
end PM
namespace PM
open Go Go.RowKit
theorem Jo9 (x y:Js):Gg x y=true↔x=y:=by
 cases x; cases y; simp [Gg]
instance : DecidableEq Js:=fun x y=>decidable_of_iff _ (Jo9 x y)
theorem Kas {l:Jd} {s:Jh} (h:(Jq4 l s).2=true):Ve l s.El=true:=by
 cases hE:Ve l s.El with
 | true=>rfl
 | false=>unfold Jq4 at h; rw [hE] at h; cases h
end PM
namespace PM
open Go Go.RowKit
theorem Jul (l:Jd) (way:List Jh):(Lj l way).Nodup:=Jsr _
end PM
namespace PM
open Go Go.RowKit
def okB (i:Nat) (c:Nat):Prop:=(97≤c∧c≤122)∨(((48≤c∧c≤57)∨c=95)∧i≠0)
def Hq (s:ByteArray):Prop:=1≤s.size∧s.size≤12∧∀ i (h:i<s.size),okB i (s[i]'h).toNat
theorem get!_eq {s:ByteArray} {i:Nat} (h:i<s.size):s.get! i=s[i]'h:=by
 cases s with
 | mk bs=>exact getElem!_pos bs i h
theorem Ju1 {s:ByteArray} {i:Nat} (h:i<s.size) (hc:(s[i]'h).toNat<128):Utf8.decode s i=((s[i]'h).toNat,1):=by
 unfold Utf8.decode;simp only [Nat.add_zero,get!_eq h];rw [if_pos hc]
theorem Jsw {s:ByteArray} {i:Nat} (h:i<s.size) (hc:128≤(s[i]'h).toNat):128≤(Utf8.decode s i).1:=by
 unfold Utf8.decode;simp only [Nat.add_zero,get!_eq h];rw [if_neg (by omega)]
 repeat' split
 all_goals first|assumption|(rename_i h1; simp only [Bool.and_eq_true,decide_eq_true_eq,ge_iff_le] at h1; have:=h1.1; omega)|(simp [Utf8.runeError])
theorem Jgi (s:ByteArray) (h:s.size≤1048576):Is (Gk s) fun b=>b=true↔Hq s:=by
 unfold Gk
 by_cases h0:s=ByteArray.empty∨12<s.size
 ·have e:(decide (s=ByteArray.empty)||decide (12<((s.size:Nat):Int)))=true:=by
   rcases h0 with e|e
   ·simp [e]
   ·simp; right; omega
  rw [e];refine Is.val ?_;simp only [Bool.false_eq_true,false_iff];rintro ⟨h1,h2,_⟩;rcases h0 with e|e
  ·have e2:s.size=0:=by rw [e]; rfl
   omega
  ·omega
 ·have h1:s≠ByteArray.empty:=fun e=>h0 (.inl e);have h2:s.size≤12:=by
   have:¬ 12<s.size:=fun e=>h0 (.inr e);omega
  have hpos:0<s.size:=by
   cases s with
   | mk bs =>
    have:bs≠#[]:=fun e=>h1 (by rw [e]; rfl);exact Array.size_pos_iff.2 this
  have e:(decide (s=ByteArray.empty)||decide (12<((s.size:Nat):Int)))=false:=by
   simp [h1]; omega
  rw [e];refine Is.bind (φ:=fun b=>b=decide (((s[0]'hpos).toNat:Int)<97)) (Is.bind (Is.six hpos) fun x hx=>Is.val (by rw [hx])) fun b1 hb1=>?_;refine Is.bind (φ:=fun b=>b=true↔¬ (97≤(s[0]'hpos).toNat∧(s[0]'hpos).toNat≤122)) ?_ fun b3 hb3=>?_
  ·subst hb1;refine Is.cond (fun hc=>Is.val ?_) (fun hc=>Is.bind (Is.six hpos) fun x hx=>Is.val ?_)
   ·have:=of_decide_eq_true hc; simp only [true_iff]; omega
   ·have:=of_decide_eq_false hc; rw [hx,decide_eq_true_iff]; omega
  refine Is.cond (fun hc=>Is.val ?_) (fun hc=>?_)
  ·have:=hb3.1 hc;simp only [Bool.false_eq_true,false_iff];rintro ⟨_,_,h3⟩;rcases h3 0 hpos with h4|h4
   ·exact this h4
   ·exact h4.2 rfl
  ·have h97:97≤(s[0]'hpos).toNat∧(s[0]'hpos).toNat≤122:=by
    by_cases q:97≤(s[0]'hpos).toNat∧(s[0]'hpos).toNat≤122
    ·exact q
    ·rw [hb3.2 q] at hc; cases hc
   refine Is.onInl (θ:=fun o=>match o with|.inl _=>Hq s|.inr b=>b=false∧¬ Hq s) ?_ (fun _ hv=>Is.val ⟨fun _=>hv,fun _=>rfl⟩) (fun b hb=>?_)
   ·refine Is.loop (mk:=fun (i:Nat) (_:Unit)=>i) s.size (fun i _=>∀ k (hk:k<s.size),k<i→okB k (s[k]'hk).toNat) () (fun k hk hi=>by omega) ?_ ?_
    ·rintro i m hi hI;unfold Ml;rw [decide_eq_true hi,cond_true]
     by_cases hlow:(s[i]'hi).toNat<128
     ·rw [Ju1 hi hlow];refine Is.cond (fun hb=>Is.val ⟨rfl, ?_⟩) (fun hb=>Is.val ⟨(),rfl,fun k hk hki=>?_⟩)
      ·rintro ⟨_,_,h3⟩;have:=h3 i hi;unfold okB at this;simp at hb;omega
      ·by_cases e:k=i
       ·subst e;unfold okB
        by_cases e0:k=0
        ·subst e0; exact .inl h97
        ·simp at hb;omega
       ·exact hI k hk (by omega)
     ·have hh:=Jsw hi (by omega);refine Is.cond (fun hb=>Is.val ⟨rfl, ?_⟩) (fun hb=>?_)
      ·rintro ⟨_,_,h3⟩;have:=h3 i hi;unfold okB at this;omega
      ·simp at hb;omega
    ·rintro m hI;unfold Ml;rw [decide_eq_false (Nat.lt_irrefl _)];exact Is.val ⟨hpos,h2,fun i hi=>hI i hi hi⟩
   ·have hb:b=false∧¬ Hq s:=hb;exact Iff.intro (fun e=>by rw [hb.1] at e; cases e) (fun e=>absurd e hb.2)
end PM
namespace PM
open Go Go.RowKit
def Iu (l:Jd):Prop:=1≤l.Elements.length∧l.Elements.length≤32∧1≤l.Sections.length∧l.Sections.length≤24∧l.Signals.length≤20∧l.Balises.length≤24
def Lh (l:Jd):Prop:=Hq l.Name∧(∀ s∈l.Sections,Hq s)∧(∀ s∈l.Elements.map (·.Name),Hq s)∧(∀ s∈l.Signals.map (·.Name),Hq s)
def Jh4 (l:Jd):Prop:=l.Sections.Nodup∧(l.Elements.map (·.Name)).Nodup∧(l.Signals.map (·.Name)).Nodup
def Jcb (l:Jd) (x:Kv):Prop :=
 (1≤x.Kind∧x.Kind≤3)∧(500≤x.Length∧x.Length≤1000000)∧(-50≤x.Grade∧x.Grade≤50)∧(100≤x.Speed∧x.Speed≤10000)∧(0≤x.Section∧x.Section<(l.Sections.length:Nat)) ∧
  (x.Kind=2→100≤x.Slow∧x.Slow≤x.Speed)∧(x.Kind≠2→x.Slow=0)
def Jzp (l:Jd):Prop:=∀ s,s<l.Sections.length→∃ x∈l.Elements,x.Section=(s:Nat)
def Jd4 (l:Jd):Prop:=(∀ x∈l.Elements,Jcb l x)∧Jzp l
def Rv (l:Jd):Prop:=∀ j∈l.Joints,exS l j.A=true∧exS l j.B=true∧j.A≠j.B
def Jj6 (l:Jd):Prop:=∀ s∈l.Signals,exS l s.At=true∧0≤s.Overlap∧s.Overlap≤1000000
def Jcq (l:Jd) (i:Int):Int:=bif Ve l i then ((l.Elements[i.toNat]?).map (·.Section)).getD (-1) else -1
def Jmr (l:Jd):Prop:=∀ s∈l.Signals,(Wq l s.At).2=true∧Jcq l (Wq l s.At).1.El≠Jcq l s.At.El
def Jnw (l:Jd) (i:Int):Int:=((l.Elements[i.toNat]?).map (·.Length)).getD 0
def Jmk (l:Jd):Prop:=∀ b∈l.Balises,1≤b.Id∧b.Id≤1073741824∧Ve l b.El=true∧0≤b.Offset∧b.Offset≤Jnw l b.El
open Classical in
noncomputable def chk (l:Jd):Int :=
 if ¬ Iu l then 2 else if ¬ Lh l then 3 else if ¬ Jh4 l then 8 else if ¬ Jd4 l then 1 else if ¬ Rv l then 1 else if ¬ (Wg l.Joints).Nodup then 8 else
 if ¬ Jj6 l then 1 else if ¬ (l.Signals.map (·.At)).Nodup then 8 else if ¬ Jmr l then 14 else if ¬ Jmk l then 1 else if ¬ (l.Balises.map (·.Id)).Nodup then 8 else 0
theorem Vp {b x y:Bool}:(bif b then some x else some y)=some (bif b then x else y):=by cases b <;> rfl
theorem Xb (a b c:Int):Qj a b c=some (decide (b≤a∧a≤c)):=by simp [Qj]
theorem Jse (l:Jd):Is (Zv l) fun b=>b=true↔Iu l:=by
 unfold Zv;simp only [Xb,Option.bind_some,Vp,Bool.cond_false_right];exact Is.val (by simp [Iu]; omega)
theorem Jfd (s:ByteArray) (h:s.size≤1048576):Is (Gp s) fun b=>b=true↔Hq s:=by
 unfold Gp;refine Is.onInl (θ:=fun o=>match o with|.inl _=>∀ k (hk:k<s.size),okB k (s[k]'hk).toNat|.inr b=>b=false∧¬ Hq s) ?_ (fun _ hv=>Is.val ?_) (fun b hb=>show b=true↔Hq s from ?_)
 ·refine Is.loop (mk:=fun (i:Nat) (_:Unit)=>(i:Int)) s.size (fun i _=>∀ k (hk:k<s.size),k<i→okB k (s[k]'hk).toNat) () (fun k hk hi=>by omega) ?_ ?_
  ·rintro i m hi hI;unfold Mp;refine Is.inb hi ?_;obtain ⟨c,hc,rfl⟩:=Is.six hi;simp only [hc,Option.bind_some,Vp,Bool.cond_false_right,Bool.cond_true_left];refine Is.ite (p:=¬ okB i (s[i]'hi).toNat) (by simp [okB]; omega) (fun hn=>Is.val ⟨rfl,fun hN=>hn (hN.2.2 i hi)⟩) (fun hn=>Is.val ⟨(),by rw [Pv (by omega)],fun k hk hki=>?_⟩)
   by_cases e:k=i
   ·subst e; exact Classical.not_not.1 hn
   ·exact hI k hk (by omega)
  ·rintro m hI;unfold Mp;exact Is.oub (Is.val fun k hk=>hI k hk hk)
 ·have hv:∀ k (hk:k<s.size),okB k (s[k]'hk).toNat:=hv;simp only [Bool.and_eq_true,decide_eq_true_eq,Hq];constructor
  ·rintro ⟨h1,h2⟩; exact ⟨by omega,by omega,hv⟩
  ·rintro ⟨h1,h2,_⟩; exact ⟨by omega,by omega⟩
 ·have hb:b=false∧¬ Hq s:=hb;rw [hb.1];exact ⟨fun e=>absurd e Bool.false_ne_true,fun e=>absurd e hb.2⟩
theorem Jte (L:List ByteArray) (hL:L.length≤1048576) (hs:∀ s∈L,s.size≤1048576) (K:Unit→Option (Int⊕(Unit⊕Int))) {ψ:Int⊕(Unit⊕Int)→Prop}
  (h1:(∀ s∈L,Hq s)→Is (K ()) ψ) (h2:¬ (∀ s∈L,Hq s)→ψ (.inr (.inr 3))):Is (onInl (Ki (Wp L) 0) K) ψ:=by
 refine Is.all (fun _ s=>Hq s) () (by omega) (fun i x hx hi _=>?_) ?_ (fun h=>h1 (Uy.1 h))
 ·unfold Wp;refine Is.inb hi (Is.at hx (Is.bind (Jgi x (hs x (List.mem_of_getElem? hx))) fun r hr=>?_));exact Is.ifn hr (fun hn=>Is.val (h2 fun e=>hn (e x (List.mem_of_getElem? hx)))) (fun hy=>Is.val ⟨rfl,hy⟩)
 ·simp [Wp]
theorem Jup (L:List ByteArray) (hL:L.length≤1048576) (K:Unit→Option (Int⊕(Unit⊕Int))) {ψ:Int⊕(Unit⊕Int)→Prop}
  (h1:L.Nodup→Is (K ()) ψ) (h2:¬ L.Nodup→ψ (.inr (.inr 8))):Is (onInl (Ki (Wo L) (0,([]:List (ByteArray×Bool)))) K) ψ:=by
 refine Is.fold (L:=L) (mk:=fun i m=>(i,m)) (fun i m=>(∀ k,(Uo m k).getD false=true↔k∈L.take i)∧(L.take i).Nodup) [] (by omega) ⟨fun k=>by simp [Jij],by simp⟩ (fun i x m hx hi hI=>?_) (fun m hI=>?_)
 ·unfold Wo;refine Is.inb hi (Is.at hx ?_);refine Is.ite (hI.1 x) (fun hm=>Is.val (h2 fun hn=>?_)) (fun hm=>Is.val ⟨_,rfl, ?_, ?_⟩)
  ·obtain ⟨j,hj,e⟩:=List.mem_iff_getElem.1 hm;rw [List.getElem_take] at e;have hj2:j<i:=by rw [List.length_take] at hj; omega
   obtain ⟨h3,h4⟩:=List.getElem?_eq_some_iff.1 hx;exact List.pairwise_iff_getElem.1 hn j i (by omega) h3 hj2 (e.trans h4.symm)
  ·rw [Ia hx]; exact Jp7 hI.1 x
  ·rw [Ia hx,Jd1]; exact ⟨hI.2,hm⟩
 ·unfold Wo;refine Is.oub (Is.val (h1 ?_));have:=hI.2; rwa [List.take_length] at this
theorem Jpl {l:Jd} (h:Sm l):Is (Za l) fun e=>(¬ Lh l∧e=3)∨(Lh l∧¬ Jh4 l∧e=8)∨(Lh l∧Jh4 l∧e=0):=by
 have g1:=h.sec; have g2:=h.el; have g3:=h.sg;unfold Za;refine Is.bind (Is.mk (by simp only [Kx,Enc.b]; omega)) fun x1 hx1=>?_;subst hx1;refine Is.fold (L:=l.Elements) (mk:=fun i m=>(m,i)) (fun i m=>m=(l.Elements.take i).map (·.Name)) [] (by omega) rfl (fun i x m hx hi hI=>?_) (fun m hI=>?_)
 ·subst hI;unfold Bf;refine Is.inb hi (Is.at hx ?_);refine Is.bind (Is.app (by simp only [List.length_map,List.length_take,List.length_cons,List.length_nil,Kx,Enc.b]; omega)) fun M hM=>?_;subst hM;exact Is.val ⟨_,rfl,by rw [Ia hx]; simp⟩
 unfold Bf;refine Is.oub (Is.val ?_);rw [List.take_length] at hI; subst hI;refine Is.bind (Is.mk (by simp only [Kx,Enc.b]; omega)) fun x1 hx1=>?_;subst hx1;refine Is.fold (L:=l.Signals) (mk:=fun i m=>(m,i)) (fun i m=>m=(l.Signals.take i).map (·.Name)) [] (by omega) rfl (fun i x m hx hi hI=>?_) (fun m hI=>?_)
 ·subst hI;unfold Bi;refine Is.inb hi (Is.at hx ?_);refine Is.bind (Is.app (by simp only [List.length_map,List.length_take,List.length_cons,List.length_nil,Kx,Enc.b]; omega)) fun M hM=>?_;subst hM;exact Is.val ⟨_,rfl,by rw [Ia hx]; simp⟩
 unfold Bi;refine Is.oub (Is.val ?_);rw [List.take_length] at hI; subst hI;have hsz:∀ L∈[[l.Name],l.Sections,l.Elements.map (·.Name),l.Signals.map (·.Name)],L.length≤1048576∧∀ s∈L,s.size≤1048576:=by
  intro L hL;simp only [List.mem_cons,List.not_mem_nil,or_false] at hL;rcases hL with rfl|rfl|rfl|rfl
  ·exact ⟨by simp,fun s hs=>by simp at hs; rw [hs]; exact h.nm⟩
  ·exact ⟨g1,h.secn⟩
  ·refine ⟨by simpa using g2,fun s hs=>?_⟩;obtain ⟨x,hx,rfl⟩:=List.mem_map.1 hs;exact h.eln x hx
  ·refine ⟨by simpa using g3,fun s hs=>?_⟩;obtain ⟨x,hx,rfl⟩:=List.mem_map.1 hs;exact h.sgn x hx
 have hN:(∀ L∈[[l.Name],l.Sections,l.Elements.map (·.Name),l.Signals.map (·.Name)],∀ s∈L,Hq s)↔Lh l:=by
  simp only [List.mem_cons,List.not_mem_nil,or_false,forall_eq_or_imp,forall_eq,Lh]
 have hD:(∀ L∈[[l.Name],l.Sections,l.Elements.map (·.Name),l.Signals.map (·.Name)],L.Nodup)↔Jh4 l:=by
  simp only [List.mem_cons,List.not_mem_nil,or_false,forall_eq_or_imp,forall_eq,Jh4];simp
 refine Is.all (L:=[[l.Name],l.Sections,l.Elements.map (·.Name),l.Signals.map (·.Name)]) (fun _ L=>∀ s∈L,Hq s) () (by simp) (fun i x hx hi _=>?_) ?_ (fun hn=>?_)
 ·unfold Bh;refine Is.inb hi (Is.at hx ?_);have hm:=List.mem_of_getElem? hx;exact Jte x (hsz x hm).1 (hsz x hm).2 _ (fun hy=>Is.val ⟨rfl,hy⟩) (fun hn=>.inl ⟨fun e=>hn (hN.2 e x hm),rfl⟩)
 ·simp [Bh]
 have hn:Lh l:=hN.1 (Uy.1 hn);refine Is.all (L:=[[l.Name],l.Sections,l.Elements.map (·.Name),l.Signals.map (·.Name)]) (fun _ L=>L.Nodup) () (by simp) (fun i x hx hi _=>?_) ?_ (fun hd=>?_)
 ·unfold Bj;refine Is.inb hi (Is.at hx ?_);have hm:=List.mem_of_getElem? hx;exact Jup x (hsz x hm).1 _ (fun hy=>Is.val ⟨rfl,hy⟩) (fun hq=>.inr (.inl ⟨hn,fun e=>hq (hD.2 e x hm),rfl⟩))
 ·simp [Bj]
 exact Is.val (.inr (.inr ⟨hn,hD.1 (Uy.1 hd),rfl⟩))
end PM
namespace PM
open Go Go.RowKit
instance (priority:=1) endDec:DecidableEq Jo:=fun x y=>decidable_of_iff _ (Ly x y)
theorem Jq1 (l:Jd) (x:Kv) (h:l.Sections.length≤1048576) :
  (Jcb l x↔((((1≤x.Kind∧x.Kind≤3)∧(500≤x.Length∧x.Length≤1000000))∧(-50≤x.Grade∧x.Grade≤50))∧(100≤x.Speed∧x.Speed≤10000))∧(0≤x.Section∧x.Section≤w64 (((l.Sections.length:Nat):Int) - 1)) ∧
   ¬ ((x.Kind=2∧¬ (100≤x.Slow∧x.Slow≤x.Speed))∨(x.Kind≠2∧x.Slow≠0))):=by
 rw [Dn (by omega) (by omega)];unfold Jcb
 by_cases h2:x.Kind=2 <;> simp [h2] <;> omega
theorem Jn4 {l:Jd} (h:Sm l):Is (Vw l) fun b=>b=true↔∀ x∈l.Elements,Jcb l x:=by
 unfold Vw;have g1:=h.sec; have g2:=h.el;refine Is.all (L:=l.Elements) (fun _ x=>Jcb l x) () (by omega) (fun i x hx hi _=>?_) ?_ (fun hn=>?_)
 ·unfold Zf;have hm:=List.mem_of_getElem? hx;refine Is.inb hi (Is.at hx ?_);simp only [Xb,Option.bind_some,Vp,Bool.cond_true_left,Bool.cond_false_right];have e:=Jq1 l x g1;refine Is.ite (p:=¬ ((((1≤x.Kind∧x.Kind≤3)∧(500≤x.Length∧x.Length≤1000000))∧(-50≤x.Grade∧x.Grade≤50))∧(100≤x.Speed∧x.Speed≤10000))∨¬ (0≤x.Section∧x.Section≤w64 (((l.Sections.length:Nat):Int) - 1)))
   (by simp only [Bool.or_eq_true,Bool.not_eq_true',decide_eq_false_iff_not]; omega) (fun hb=>Is.val ?_) (fun hb=>?_)
  ·refine iff_of_false Bool.false_ne_true fun q=>?_;have:=e.1 (q x hm); omega
  ·refine Is.ite (p:=(x.Kind=2∧¬ (100≤x.Slow∧x.Slow≤x.Speed))∨(x.Kind≠2∧x.Slow≠0)) (by simp only [Bool.or_eq_true,Bool.and_eq_true,Bool.not_eq_true',decide_eq_false_iff_not,decide_eq_true_eq,ne_eq]) (fun hc=>Is.val ?_) (fun hc=>Is.val ⟨rfl, ?_⟩)
   ·refine iff_of_false Bool.false_ne_true fun q=>?_;exact (e.1 (q x hm)).2.2 hc
   ·exact e.2 ⟨by omega,by omega,hc⟩
 ·simp [Zf]
 ·exact Is.val (iff_of_true rfl (Uy.1 hn))
def Jfg (s:Int) (L:List Kv):Nat→List Int
 | 0=>[]
 | n+1=>Jfg s L n++(match L[n]? with|some x=>if x.Section=s then [(n:Int)] else []|none=>[])
theorem Jmo (s:Int) (L:List Kv):∀ n,(Jfg s L n).length≤n
 | 0=>Nat.le_refl _
 | n+1=>by
  have ih:=Jmo s L n;simp only [Jfg,List.length_append];split
  ·split <;> simp <;> omega
  ·simp; omega
theorem Jnz {s:Int} {L:List Kv} {k:Int}:∀ {n},k∈Jfg s L n↔∃ i x,i<n∧L[i]? = some x∧x.Section=s∧k=(i:Nat)
 | 0=>by simp [Jfg]
 | n+1=>by
  simp only [Jfg,List.mem_append,Jnz (n:=n)];constructor
  ·rintro (⟨i,x,h1,h2⟩|h)
   ·exact ⟨i,x,by omega,h2⟩
   ·split at h
    ·rename_i x hx;split at h
     ·rename_i hs;exact ⟨n,x,by omega,hx,hs,by simpa using h⟩
     ·cases h
    ·cases h
  ·rintro ⟨i,x,h1,h2,h3,h4⟩
   by_cases e:i=n
   ·subst e
    right
    rw [h2];simp [h3,h4]
   ·exact .inl ⟨i,x,by omega,h2,h3,h4⟩
theorem Jzc {s:Int} {L:List Kv}:(Jfg s L L.length).length=0↔¬ ∃ x∈L,x.Section=s:=by
 rw [List.length_eq_zero_iff,List.eq_nil_iff_forall_not_mem];constructor
 ·rintro h ⟨x,hx,e⟩;obtain ⟨i,hi⟩:=List.getElem?_of_mem hx;exact h i (Jnz.2 ⟨i,x,Wj hi,hi,e,rfl⟩)
 ·rintro h k hk;obtain ⟨i,x,_,h2,h3,_⟩:=Jnz.1 hk;exact h ⟨x,List.mem_of_getElem? h2,h3⟩
def Pu (l:Jd) (s:Int):List Int:=if 0≤s∧s<(l.Sections.length:Nat) then Jfg s l.Elements l.Elements.length else []
theorem Jik {l:Jd} (h:l.Elements.length≤1048576) (s:Int):Zu l s=some (Pu l s):=by
 suffices hs:Is (Zu l s) fun r=>r=Pu l s by
  obtain ⟨r,h1,h2⟩:=hs; rw [h1,h2]
 unfold Zu;simp only [Vp,Option.bind_some,Bool.cond_true_left];refine Is.ite (p:=¬ (0≤s∧s<(l.Sections.length:Nat))) (by simp; omega) (fun hb=>Is.val (by rw [Pu,if_neg hb])) (fun hb=>?_);rw [Pu,if_pos (Classical.not_not.1 hb)];refine Is.fold (L:=l.Elements) (mk:=fun i m=>(i,m)) (fun i m=>m=Jfg s l.Elements i) [] (by omega) rfl (fun i x m hx hi hI=>?_) (fun m hI=>?_)
 ·subst hI;unfold Dx;refine Is.inb hi ?_;refine Is.onInl (θ:=fun o=>o=.inl (Jfg s l.Elements (i+1))) (Is.at hx (Is.ite Sq (fun hc=>?_) (fun hc=>Is.val ?_))) (fun v hv=>?_) (fun b hb=>by cases hb)
  ·have:=Jmo s l.Elements i;refine Is.bind (Is.app (by simp only [List.length_cons,List.length_nil,Kx,Enc.b]; omega)) fun M hM=>Is.val ?_;rw [hM]; simp [Jfg,hx,hc]
  ·simp [Jfg,hx,hc]
  ·cases hv; exact Is.val ⟨_,rfl,rfl⟩
 ·subst hI;unfold Dx;exact Is.oub (Is.val (Is.val rfl))
theorem Jko {l:Jd} (h:l.Elements.length≤1048576) (s:Int):Br l s=some (Pu l s):=by
 suffices hs:Is (Br l s) fun r=>r=Pu l s by
  obtain ⟨r,h1,h2⟩:=hs; rw [h1,h2]
 unfold Br;refine Is.fold (L:=l.Elements) (mk:=fun i m=>(i,m)) (fun i m=>m=if 0≤s∧s<(l.Sections.length:Nat) then Jfg s l.Elements i else []) [] (by omega) (by simp [Jfg]) (fun i x m hx hi hI=>?_) (fun m hI=>?_)
 ·unfold Fj;refine Is.inb hi ?_;refine Is.onInl (θ:=fun o=>o=.inl (if 0≤s∧s<(l.Sections.length:Nat) then Jfg s l.Elements (i+1) else [])) (Is.at hx ?_) (fun v hv=>?_) (fun b hb=>by cases hb)
  ·simp only [Vp,Option.bind_some,Bool.cond_false_right];refine Is.ite (p:=x.Section=s∧0≤s∧s<(l.Sections.length:Nat)) (by simp; omega) (fun hc=>?_) (fun hc=>Is.val ?_)
   ·rw [if_pos hc.2] at hI ⊢;have:=Jmo s l.Elements i;refine Is.bind (Is.app (by subst hI; simp only [List.length_cons,List.length_nil,Kx,Enc.b]; omega)) fun M hM=>Is.val ?_;rw [hM,hI]; simp [Jfg,hx,hc.1]
   ·subst hI
    by_cases hr:0≤s∧s<(l.Sections.length:Nat)
    ·have:¬ x.Section=s:=fun e=>hc ⟨e,hr⟩;rw [if_pos hr,if_pos hr]; simp [Jfg,hx,this]
    ·rw [if_neg hr,if_neg hr]
  ·cases hv; exact Is.val ⟨_,rfl,rfl⟩
 ·unfold Fj;exact Is.oub (Is.val (Is.val hI))
theorem Jix {l:Jd} {s:Nat} (h:s<l.Sections.length):(((Pu l (s:Int)).length:Nat):Int)=0↔¬ ∃ x∈l.Elements,x.Section=(s:Nat):=by
 rw [Pu,if_pos (by omega)];rw [← Jzc]; omega
theorem Jlx {l:Jd} (h:Sm l):Is (Ws l) fun b=>b=true↔Jzp l:=by
 unfold Ws;have g1:=h.sec;refine Is.all (L:=l.Sections) (fun i _=>∃ x∈l.Elements,x.Section=(i:Nat)) () (by omega) (fun i x hx hi _=>?_) ?_ (fun hn=>?_)
 ·unfold Yq;refine Is.inb hi (Is.to (Jik h.el _) ?_);refine Is.ite (Sq.trans (Jix hi)) (fun hb=>Is.val (iff_of_false Bool.false_ne_true fun q=>hb (q i hi))) (fun hb=>Is.val ⟨rfl,Classical.not_not.1 hb⟩)
 ·simp [Yq]
 ·exact Is.val (iff_of_true rfl fun s hs=>hn s l.Sections[s] (List.getElem?_eq_getElem hs))
theorem Jo7 (a:Int):Nd a=some (Jcx a):=by
 unfold Nd Jcx
 by_cases h:a<0∨4≤a
 ·have e:(decide (a<0)||decide (4≤a))=true:=by simpa using h
  rw [e,cond_true];rw [if_neg (by omega),if_neg (by omega),if_neg (by omega)]
 ·have e:(decide (a<0)||decide (4≤a))=false:=by simpa using h
  rw [e,cond_false];have:a=0∨a=1∨a=2∨a=3:=by omega
  rcases this with rfl|rfl|rfl|rfl <;> rfl
theorem Jxf (a:Int):0≤Jcx a∧Jcx a≤4:=by
 unfold Jcx; (repeat' split) <;> omega
theorem Jbe {l:Jd} (h:l.Elements.length≤1048576) (e:Jo):Yt l e=some (exS l e):=by
 unfold Yt exS;have h1:decide (0≤e.El∧e.El≤w64 (((l.Elements.length:Nat):Int) - 1))=Ve l e.El:=by
  rw [Dn (by omega) (by omega)];unfold Ve;rw [Bool.eq_iff_iff]; simp; omega
 simp only [Xb,Option.bind_some,h1];cases hh:Ve l e.El with
 | false=>rfl
 | true =>
  obtain ⟨x,h2,h3⟩:=Vv hh;have:=Jxf x.Kind;simp only [cond_true,h2,h3,Jo7,Option.bind_some,Dn (n:=Jcx x.Kind - 1) (by omega) (by omega)];rw [Option.some.injEq,Bool.eq_iff_iff]; simp; omega
def jf (L:List Qu) (e:Jo):Option Jo:=(L.find? fun j=>Kj j.A e||Kj j.B e).map fun j=>bif Kj j.A e then j.B else j.A
theorem Kbe (l:Jd) (e:Jo):Wq l e=match jf l.Joints e with|some f=>(f,true)|none=>(⟨0,0⟩,false):=by
 unfold Wq jf;cases l.Joints.find? fun j=>Kj j.A e||Kj j.B e <;> rfl
theorem Ka5 (L:List Qu) (j:Qu) (e:Jo):jf (L++[j]) e=(jf L e).or (jf [j] e):=by
 unfold jf;rw [List.find?_append];cases L.find? fun j=>Kj j.A e||Kj j.B e <;> simp
theorem Jft {L:List Qu} {e:Jo}:(jf L e).isSome=true↔e∈Wg L:=by
 unfold jf;rw [Option.isSome_map,List.find?_isSome];simp only [Bool.or_eq_true,Ly,Wg,List.mem_flatMap,List.mem_cons,List.not_mem_nil,or_false];exact ⟨fun ⟨x,h1,h2⟩=>⟨x,h1,h2.imp Eq.symm Eq.symm⟩,fun ⟨x,h1,h2⟩=>⟨x,h1,h2.imp Eq.symm Eq.symm⟩⟩
theorem Jsh (e:Jo):Kj e e=true:=(Ly e e).2 rfl
theorem Jek {e f:Jo} (h:e≠f):Kj e f=false:=by
 cases q:Kj e f
 ·rfl
 ·exact absurd ((Ly e f).1 q) h
theorem Kc0 (j:Qu) (h:j.A≠j.B) (e:Jo):jf [j] e=if e=j.B then some j.A else if e=j.A then some j.B else none:=by
 by_cases h1:e=j.B
 ·subst h1;simp [jf,Jsh,Jek h]
 ·rw [if_neg h1]
  by_cases h2:e=j.A
  ·subst h2;simp [jf,Jsh]
  ·simp [jf,Jek (Ne.symm h1),Jek (Ne.symm h2),h2]
theorem Jt4 {l:Jd} (h:Sm l):Is (Bw l) fun r=>(¬ Rv l∧r.2=1)∨(Rv l∧¬ (Wg l.Joints).Nodup∧r.2=8)∨(Rv l∧(Wg l.Joints).Nodup∧r.2=0∧∀ e,Uo r.1 e=jf l.Joints e):=by
 unfold Bw;have g3:=h.jo;refine Is.all (L:=l.Joints) (fun _ j=>exS l j.A=true∧exS l j.B=true∧j.A≠j.B) () (by omega) (fun i x hx hi _=>?_) ?_ (fun hJ=>?_)
 ·unfold Cv;refine Is.inb hi (Is.at hx ?_);simp only [Jbe h.el,Option.bind_some,Vp,Bool.cond_true_left];refine Is.ite (p:=¬ (exS l x.A=true∧exS l x.B=true∧x.A≠x.B)) (by simp only [Bool.or_eq_true,Bool.not_eq_true',Ly]; cases exS l x.A <;> cases exS l x.B <;> simp) (fun hb=>Is.val (.inl ⟨fun q=>hb (q x (List.mem_of_getElem? hx)),rfl⟩)) (fun hb=>Is.val ⟨rfl,Classical.not_not.1 hb⟩)
 ·simp [Cv]
 have hJ:Rv l:=Uy.1 hJ;refine Is.fold (L:=l.Joints) (mk:=fun i m=>(i,m)) (fun i m=>(∀ e,Uo m e=jf (l.Joints.take i) e)∧(Wg (l.Joints.take i)).Nodup) [] (by omega) ⟨fun e=>by simp [Jij,jf],by simp [Wg]⟩ (fun i x m hx hi hI=>?_) (fun m hI=>?_)
 ·unfold Cr;refine Is.inb hi (Is.at hx ?_);have hx':=hJ x (List.mem_of_getElem? hx);rw [hI.1,hI.1];have e1:Wg (l.Joints.take (i+1))=Wg (l.Joints.take i)++[x.A,x.B]:=by rw [Ia hx,Jld]
  refine Is.ite (p:=x.A∈Wg (l.Joints.take i)∨x.B∈Wg (l.Joints.take i)) (Jxk Jft Jft) (fun hb=>Is.val (.inr (.inl ⟨hJ,fun hn=>?_,rfl⟩))) (fun hb=>Is.val ⟨_,rfl, ?_, ?_⟩)
  ·have h2:(Wg (l.Joints.take (i+1))).Nodup:=by
    have:Wg l.Joints=Wg (l.Joints.take (i+1))++Wg (l.Joints.drop (i+1)):=by
     unfold Wg;rw [← List.flatMap_append,List.take_append_drop]
    rw [this,List.nodup_append] at hn;exact hn.1
   rw [e1,List.nodup_append] at h2;rcases hb with hb|hb
   ·exact h2.2.2 _ hb x.A (by simp) rfl
   ·exact h2.2.2 _ hb x.B (by simp) rfl
  ·intro e;rw [Ia hx,Ka5,Jtm,Jtm,hI.1,Kc0 x hx'.2.2];have hA:jf (l.Joints.take i) x.A=none:=by
    rw [← Option.not_isSome_iff_eq_none,Jft]; exact fun q=>hb (.inl q)
   have hB:jf (l.Joints.take i) x.B=none:=by
    rw [← Option.not_isSome_iff_eq_none,Jft]; exact fun q=>hb (.inr q)
   by_cases q1:e=x.B
   ·subst q1; simp [hB]
   ·by_cases q2:e=x.A
    ·subst q2; simp [hA,q1]
    ·simp [q1,q2]
  ·rw [e1,List.nodup_append];refine ⟨hI.2,by simpa using hx'.2.2,fun a ha b hb2 e=>?_⟩;subst e;simp only [List.mem_cons,List.not_mem_nil,or_false] at hb2;rcases hb2 with e|e
   ·exact hb (.inl (e▸ha))
   ·exact hb (.inr (e▸ha))
 ·unfold Cr;rw [List.take_length] at hI;exact Is.oub (Is.val (Is.val (.inr (.inr ⟨hJ,hI.2,rfl,hI.1⟩))))
def Jpf (L:List Ky) (e:Jo):Int:=match L.findIdx? fun s=>Kj s.At e with|some i=>(i:Nat)|none => -1
theorem Jqr {L:List Ky} {e:Jo} {i:Nat} {x:Ky} (hx:L[i]? = some x) (hi:x.At=e) (hp:∀ j y,j<i→L[j]? = some y→y.At≠e):Jpf L e=(i:Nat):=by
 have:L.findIdx? (fun s=>Kj s.At e)=some i:=by
  obtain ⟨h1,h2⟩:=List.getElem?_eq_some_iff.1 hx;rw [List.findIdx?_eq_some_iff_getElem];refine ⟨h1,by rw [h2,hi]; exact Jsh e,fun j hj=>?_⟩;rw [Jek (hp j L[j] hj (List.getElem?_eq_getElem (by omega)))]; simp
 rw [Jpf,this]
theorem Jw3 {L:List Ky} {e:Jo} (h:∀ s∈L,s.At≠e):Jpf L e = -1:=by
 have:L.findIdx? (fun s=>Kj s.At e)=none:=by
  rw [List.findIdx?_eq_none_iff];exact fun s hs=>Jek (h s hs)
 rw [Jpf,this]
theorem Oi {l:Jd} (h:l.Signals.length≤1048576) (e:Jo):Yu l e=some (Jpf l.Signals e):=by
 suffices hs:Is (Yu l e) fun r=>r=Jpf l.Signals e by
  obtain ⟨r,h1,h2⟩:=hs; rw [h1,h2]
 unfold Yu;refine Is.all (L:=l.Signals) (fun _ s=>s.At≠e) () (by omega) (fun i x hx hi hp=>?_) ?_ (fun hn=>?_)
 ·unfold Fm;refine Is.inb hi (Is.at hx (Is.ite (Ly _ _) (fun hc=>Is.val (Jqr hx hc hp).symm) (fun hc=>Is.val ⟨rfl,hc⟩)))
 ·simp [Fm]
 ·exact Is.val (Jw3 (Uy.1 hn)).symm
theorem Jon {L:List Ky}:(∀ (i:Nat) x,L[i]? = some x→Jpf L x.At=(i:Nat))↔(L.map (·.At)).Nodup:=by
 constructor
 ·intro h;rw [List.Nodup,List.pairwise_map,List.pairwise_iff_getElem];intro i j hi hj hij e;have h1:=h i L[i] (List.getElem?_eq_getElem hi);have h2:=h j L[j] (List.getElem?_eq_getElem hj);rw [e] at h1; omega
 ·intro h i x hx;refine Jqr hx rfl fun j y hj hy e=>?_;rw [List.Nodup,List.pairwise_map,List.pairwise_iff_getElem] at h;obtain ⟨h1,h2⟩:=List.getElem?_eq_some_iff.1 hx;obtain ⟨h3,h4⟩:=List.getElem?_eq_some_iff.1 hy;exact h j i h3 h1 hj (by rw [h2,h4]; exact e)
theorem Ji7 (l:Jd) (i:Int):Wv l i=some (Jcq l i):=by
 unfold Wv Jcq;simp only [Vp,Option.bind_some,Bool.cond_true_left];have e:(decide (i<0)||decide (((l.Elements.length:Nat):Int)≤i)) = !Ve l i:=by
  unfold Ve; rw [Bool.eq_iff_iff]; simp
 rw [e];cases h:Ve l i with
 | false=>rfl
 | true =>
  obtain ⟨x,h2,h3⟩:=Vv h;simp [h2,h3]
theorem Jlk {l:Jd} (h:Sm l) {m:List (Jo×Jo)} (hm:∀ e,Uo m e=jf l.Joints e):Is (Vm l m) fun e =>
  (¬ Jj6 l∧e=1)∨(Jj6 l∧¬ (l.Signals.map (·.At)).Nodup∧e=8)∨(Jj6 l∧(l.Signals.map (·.At)).Nodup∧¬ Jmr l∧e=14)∨(Jj6 l∧(l.Signals.map (·.At)).Nodup∧Jmr l∧e=0):=by
 unfold Vm;have g3:=h.sg;refine Is.all (L:=l.Signals) (fun _ s=>exS l s.At=true∧0≤s.Overlap∧s.Overlap≤1000000) () (by omega) (fun i x hx hi _=>?_) ?_ (fun h1=>?_)
 ·unfold Yh;refine Is.inb hi (Is.at hx ?_);simp only [Jbe h.el,Xb,Option.bind_some,Vp,Bool.cond_true_left];refine Is.ite (p:=¬ (exS l x.At=true∧0≤x.Overlap∧x.Overlap≤1000000)) (by cases exS l x.At <;> simp <;> omega) (fun hb=>Is.val (.inl ⟨fun q=>hb (q x (List.mem_of_getElem? hx)),rfl⟩)) (fun hb=>Is.val ⟨rfl,Classical.not_not.1 hb⟩)
 ·simp [Yh]
 have h1:Jj6 l:=Uy.1 h1;refine Is.all (L:=l.Signals) (fun i s=>Jpf l.Signals s.At=(i:Nat)) () (by omega) (fun i x hx hi _=>?_) ?_ (fun h2=>?_)
 ·unfold Yp;refine Is.inb hi (Is.at hx (Is.to (Oi g3 _) ?_));exact Is.ifn Sq (fun hc=>Is.val (.inr (.inl ⟨h1,fun q=>hc (Jon.2 q i x hx),rfl⟩))) (fun hc=>Is.val ⟨rfl,hc⟩)
 ·simp [Yp]
 have h2:=Jon.1 h2;refine Is.all (L:=l.Signals) (fun _ s=>(Wq l s.At).2=true∧Jcq l (Wq l s.At).1.El≠Jcq l s.At.El) () (by omega) (fun i x hx hi _=>?_) ?_ (fun h3=>?_)
 ·unfold Yk;refine Is.inb hi (Is.at hx ?_);simp only [Ji7,Option.bind_some,Vp,Bool.cond_true_left,hm];refine Is.ite (p:=¬ ((Wq l x.At).2=true∧Jcq l (Wq l x.At).1.El≠Jcq l x.At.El)) ?_ (fun hb=>Is.val (.inr (.inr (.inl ⟨h1,h2,fun q=>hb (q x (List.mem_of_getElem? hx)),rfl⟩)))) (fun hb=>Is.val ⟨rfl,Classical.not_not.1 hb⟩);rw [Kbe];cases jf l.Joints x.At <;> simp
 ·simp [Yk]
 exact Is.val (.inr (.inr (.inr ⟨h1,h2,Uy.1 h3,rfl⟩)))
theorem Jwv {l:Jd} {i:Int} (h:l.Elements.length≤1048576):(0≤i∧i≤w64 (((l.Elements.length:Nat):Int) - 1))↔Ve l i=true:=by
 rw [Dn (by omega) (by omega)]; simp [Ve]; omega
theorem Jlr {l:Jd} (h:Sm l):Is (Vo l) fun e=>(¬ Jmk l∧e=1)∨(Jmk l∧¬ (l.Balises.map (·.Id)).Nodup∧e=8)∨(Jmk l∧(l.Balises.map (·.Id)).Nodup∧e=0):=by
 unfold Vo;have g3:=h.ba;refine Is.all (L:=l.Balises) (fun _ b=>1≤b.Id∧b.Id≤1073741824∧Ve l b.El=true∧0≤b.Offset∧b.Offset≤Jnw l b.El) () (by omega) (fun i x hx hi _=>?_) ?_ (fun h1=>?_)
 ·unfold Yn;refine Is.inb hi (Is.at hx ?_);simp only [Xb,Option.bind_some,Vp,Bool.cond_true_left];refine Is.bind (Is.or (p:=¬ (1≤x.Id∧x.Id≤1073741824)∨¬ Ve l x.El=true) (q:=¬ (0≤x.Offset∧x.Offset≤Jnw l x.El)) (by simp only [Bool.or_eq_true,Bool.not_eq_true',decide_eq_false_iff_not,Jwv h.el]) fun hp=>?_) fun b hb=>?_
  ·have hh:Ve l x.El=true:=Classical.not_not.1 fun q=>hp (.inr q);obtain ⟨y,h2,h3⟩:=Vv hh;rw [h2];exact Is.val (by simp [Jnw,h3]; omega)
  ·refine Is.ite hb (fun hc=>Is.val (.inl ⟨fun q=>?_,rfl⟩)) (fun hc=>Is.val ⟨rfl, ?_⟩)
   ·have q1:=q x (List.mem_of_getElem? hx);rcases hc with (hc|hc)|hc
    ·exact hc ⟨q1.1,q1.2.1⟩
    ·exact hc q1.2.2.1
    ·exact hc q1.2.2.2
   ·have q1:1≤x.Id∧x.Id≤1073741824:=Classical.not_not.1 fun q=>hc (.inl (.inl q));exact ⟨q1.1,q1.2,Classical.not_not.1 fun q=>hc (.inl (.inr q)),Classical.not_not.1 fun q=>hc (.inr q)⟩
 ·simp [Yn]
 have h1:Jmk l:=Uy.1 h1;refine Is.fold (L:=l.Balises) (mk:=fun i m=>(i,m)) (fun i m=>(∀ k,(Uo m k).getD false=true↔k∈(l.Balises.take i).map (·.Id))∧((l.Balises.take i).map (·.Id)).Nodup) [] (by omega) ⟨fun k=>by simp [Jij],by simp⟩ (fun i x m hx hi hI=>?_) (fun m hI=>?_)
 ·unfold Yf;refine Is.inb hi (Is.at hx ?_);have e1:(l.Balises.take (i+1)).map (·.Id)=(l.Balises.take i).map (·.Id)++[x.Id]:=by rw [Ia hx]; simp
  refine Is.ite (hI.1 x.Id) (fun hb=>Is.val (.inr (.inl ⟨h1,fun hn=>?_,rfl⟩))) (fun hb=>Is.val ⟨_,rfl, ?_, ?_⟩)
  ·have:(l.Balises.map (·.Id))=(l.Balises.take (i+1)).map (·.Id)++(l.Balises.drop (i+1)).map (·.Id):=by rw [← List.map_append,List.take_append_drop]
   rw [this,e1,List.nodup_append,Jd1] at hn;exact hn.1.2 hb
  ·rw [e1]; exact Jp7 hI.1 x.Id
  ·rw [e1,Jd1]; exact ⟨hI.2,hb⟩
 ·unfold Yf;rw [List.take_length] at hI;exact Is.oub (Is.val (Is.val (.inr (.inr ⟨h1,hI.2,rfl⟩))))
theorem Jlz {l:Jd} (h:Sm l):Is (Df l) fun e=>e=chk l:=by
 unfold Df;refine Is.bind (Jse l) fun b hb=>Is.ifn hb (fun hc=>Is.val (by simp [chk,hc])) (fun hc=>?_);refine Is.bind (Jpl h) fun e he=>?_;rcases he with ⟨h1,rfl⟩|⟨h1,h2,rfl⟩|⟨h1,h2,rfl⟩
 ·exact Is.val (by simp [chk,hc,h1])
 ·exact Is.val (by simp [chk,hc,h1,h2])
 show Is ((Vw l).bind _) _;refine Is.bind (Jn4 h) fun b hb=>?_;refine Is.bind (φ:=fun c=>c=true↔¬ Jd4 l) ((Is.or (Jmv hb) fun hp=>Is.not (Jlx h)).mono fun c hc=>hc.trans ?_) fun c hc3=>?_
 ·unfold Jd4
  by_cases q:∀ x∈l.Elements,Jcb l x <;> by_cases q2:Jzp l <;> simp [q,q2]
 refine Is.ite hc3 (fun h3=>Is.val (by simp [chk,hc,h1,h2,h3])) (fun h3=>?_);have h3:Jd4 l:=Classical.not_not.1 h3;refine Is.bind (Jt4 h) fun r hr=>?_;rcases hr with ⟨h4,e⟩|⟨h4,h5,e⟩|⟨h4,h5,e,hm⟩
 ·rw [e]; exact Is.val (by simp [chk,hc,h1,h2,h3,h4])
 ·rw [e]; exact Is.val (by simp [chk,hc,h1,h2,h3,h4,h5])
 rw [e];show Is ((Vm l r.1).bind _) _;refine Is.bind (Jlk h hm) fun e he=>?_;rcases he with ⟨h6,rfl⟩|⟨h6,h7,rfl⟩|⟨h6,h7,h8,rfl⟩|⟨h6,h7,h8,rfl⟩
 ·exact Is.val (by simp [chk,hc,h1,h2,h3,h4,h5,h6])
 ·exact Is.val (by simp [chk,hc,h1,h2,h3,h4,h5,h6,h7])
 ·exact Is.val (by simp [chk,hc,h1,h2,h3,h4,h5,h6,h7,h8])
 show Is ((Vo l).bind _) _;refine Is.bind (Jlr h) fun e he=>?_;rcases he with ⟨h9,rfl⟩|⟨h9,h10,rfl⟩|⟨h9,h10,rfl⟩
 ·exact Is.val (by simp [chk,hc,h1,h2,h3,h4,h5,h6,h7,h8,h9])
 ·exact Is.val (by simp [chk,hc,h1,h2,h3,h4,h5,h6,h7,h8,h9,h10])
 ·exact Is.val (by simp [chk,hc,h1,h2,h3,h4,h5,h6,h7,h8,h9,h10])
end PM
namespace PM
open Go Go.RowKit
theorem Ju7 {α:Type} (L:List α) (eqb:α→α→Bool) (heq:∀ x y,eqb x y=true↔x=y) (hL:L.length≤4194304) {s1:Int→Int→Option (Int⊕(Unit⊕(Int⊕(Unit⊕Bool))))} {s0:Int→Option (Int⊕(Unit⊕Bool))}
  (h1:∀ i k,s1 i k=bif decide (k<i) then ((ixO L i).bind fun x=>(ixO L k).bind fun y=>bif eqb x y then some (.inr (.inr (.inr (.inr true)))) else some (.inl (w64 (k+1)))) else some (.inr (.inl ())))
  (h0:∀ i,s0 i=bif decide (i<((L.length:Nat):Int)) then onInl (Ki (s1 i) 0) (fun _=>some (.inl (w64 (i+1)))) else some (.inr (.inl ()))) :
  Is (onInl (Ki s0 0) fun _=>some false) fun b=>b=true↔¬ L.Nodup:=by
 refine Is.all (L:=L) (fun i x=>∀ j y,j<i→L[j]? = some y→y≠x) () (by omega) (fun i x hx hi _=>?_) ?_ (fun h=>Is.val ?_)
 ·rw [h0];refine Is.inb hi ?_;have hlen:(L.take i).length=i:=by rw [List.length_take]; omega
  refine Is.all (L:=L.take i) (fun _ y=>y≠x) () (by omega) (fun k y hy hk _=>?_) ?_ (fun hn=>Is.val ⟨rfl,fun j y hj hy=>?_⟩)
  ·rw [h1];rw [hlen] at hk;rw [List.getElem?_take,if_pos hk] at hy;refine Is.inb hk (Is.at hx (Is.at hy (Is.ite (heq x y) (fun hc=>Is.val ?_) (fun hc=>Is.val ⟨rfl,fun e=>hc e.symm⟩))));refine iff_of_true rfl fun hn=>?_;obtain ⟨g1,g2⟩:=List.getElem?_eq_some_iff.1 hx;obtain ⟨g3,g4⟩:=List.getElem?_eq_some_iff.1 hy;exact List.pairwise_iff_getElem.1 hn k i g3 g1 hk (by rw [g2,g4,hc])
  ·rw [h1,hlen]; simp
  ·exact hn j y (by rw [List.getElem?_take,if_pos hj]; exact hy)
 ·rw [h0]; simp
 ·refine iff_of_false Bool.false_ne_true (fun q=>q ?_);rw [List.Nodup,List.pairwise_iff_getElem];intro i j hi hj hij;exact h j L[j] (List.getElem?_eq_getElem hj) i L[i] hij (List.getElem?_eq_getElem hi)
theorem Rz (L:List ByteArray) (h:L.length≤4194304):Is (Es L) fun b=>b=true↔¬ L.Nodup :=
 Ju7 L (fun x y=>decide (x=y)) (fun _ _=>Sq) h (fun _ _=>rfl) (fun _=>rfl)
theorem Je2 (L:List Jo) (h:L.length≤4194304):Is (Nv L) fun b=>b=true↔¬ L.Nodup :=
 Ju7 L Kj Ly h (fun _ _=>rfl) (fun _=>rfl)
theorem Jim (L:List Int) (h:L.length≤4194304):Is (Ix L) fun b=>b=true↔¬ L.Nodup :=
 Ju7 L (fun x y=>decide (x=y)) (fun _ _=>Sq) h (fun _ _=>rfl) (fun _=>rfl)
theorem Jlj {l:Jd} (h:Sm l):Is (Hy l) fun e=>(¬ Iu l∧e=2)∨(Iu l∧¬ Lh l∧e=3)∨(Iu l∧Lh l∧¬ Jh4 l∧e=8)∨(Iu l∧Lh l∧Jh4 l∧e=0):=by
 unfold Hy;have h1:=h.sec; have h2:=h.el; have h3:=h.sg;simp only [Option.bind_some,Vp,Bool.cond_true_left];refine Is.ite (p:=¬ Iu l) (by simp [Iu]; omega) (fun hc=>Is.val (.inl ⟨hc,rfl⟩)) (fun hc=>?_);have hc:Iu l:=Classical.not_not.1 hc;refine Is.bind (Jmq h) fun r hr=>?_;obtain ⟨e0,e1,e2⟩:=hr;rw [e0,e1,e2];refine Is.bind (Is.app (by simp only [List.length_cons,List.length_nil,Kx,Enc.b]; omega)) fun x7 hx7=>?_;subst hx7;refine Is.bind (Is.app (by simp only [List.length_append,List.length_map,List.length_cons,List.length_nil,Kx,Enc.b]; omega)) fun x8 hx8=>?_;subst hx8;refine Is.bind (Is.app (by simp only [List.length_append,List.length_map,List.length_cons,List.length_nil,Kx,Enc.b]; omega)) fun x9 hx9=>?_;have hsz:∀ s∈x9,s.size≤1048576:=by
  subst hx9;intro s hs;simp only [List.mem_append,List.mem_cons,List.not_mem_nil,or_false,List.mem_map] at hs;rcases hs with ((rfl|hs)|⟨x,hx,rfl⟩)|⟨x,hx,rfl⟩
  ·exact h.nm
  ·exact h.secn s hs
  ·exact h.eln x hx
  ·exact h.sgn x hx
 have hlen:x9.length≤4194304:=by
  subst hx9;simp only [List.length_append,List.length_map,List.length_cons,List.length_nil]; omega
 have hN:(∀ s∈x9,Hq s)↔Lh l:=by
  subst hx9;simp only [Lh,List.mem_append,List.mem_cons,List.not_mem_nil,or_false];exact ⟨fun q=>⟨q _ (.inl (.inl (.inl rfl))),fun s hs=>q s (.inl (.inl (.inr hs))),fun s hs=>q s (.inl (.inr hs)),fun s hs=>q s (.inr hs)⟩,
   fun ⟨q1,q2,q3,q4⟩ s hs=>hs.elim (fun hs=>hs.elim (fun hs=>hs.elim (fun e=>e▸q1) (q2 s)) (q3 s)) (q4 s)⟩
 clear hx9;refine Is.all (L:=x9) (fun _ s=>Hq s) () (by omega) (fun i x hx hi _=>?_) ?_ (fun hn=>?_)
 ·unfold Ip;refine Is.inb hi (Is.at hx (Is.bind (Jfd x (hsz x (List.mem_of_getElem? hx))) fun r hr=>?_));exact Is.ifn hr (fun hn=>Is.val (.inr (.inl ⟨hc,fun e=>hn (hN.2 e x (List.mem_of_getElem? hx)),rfl⟩))) (fun hy=>Is.val ⟨rfl,hy⟩)
 ·simp [Ip]
 have hn:Lh l:=hN.1 (Uy.1 hn);refine Is.bind (Rz _ (by omega)) fun r hr=>?_;refine Is.bind (Is.or hr fun _=>Is.bind (Rz _ (by simp only [List.length_map]; omega)) fun b hb=>Is.val hb) fun b hb=>?_;refine Is.bind (Is.or hb fun _=>Is.bind (Rz _ (by simp only [List.length_map]; omega)) fun b hb=>Is.val hb) fun b2 hb2=>?_;refine Is.ite hb2 (fun hd=>Is.val (.inr (.inr (.inl ⟨hc,hn,fun q=>?_,rfl⟩)))) (fun hd=>Is.val (.inr (.inr (.inr ⟨hc,hn, ?_,rfl⟩))))
 ·rcases hd with (hd|hd)|hd
  ·exact hd q.1
  ·exact hd q.2.1
  ·exact hd q.2.2
 ·exact ⟨Classical.not_not.1 fun q=>hd (.inl (.inl q)),Classical.not_not.1 fun q=>hd (.inl (.inr q)),Classical.not_not.1 fun q=>hd (.inr q)⟩
theorem Jll (l:Jd) (x:Kv):Is (Hr l x) fun b=>b=true↔Jcb l x:=by
 unfold Hr;simp only [Option.bind_some,Vp,Bool.cond_true_left];refine Is.val ?_;unfold Jcb
 by_cases h2:x.Kind=2
 ·simp [h2,Bool.cond_eq_ite]; omega
 ·simp [h2,Bool.cond_eq_ite]; omega
theorem Jhm : ∀ L:List Qu,(Wg L).length=2 * L.length
 | []=>rfl
 | j::L=>by
  have:=Jhm L;simp only [Wg,List.flatMap_cons,List.length_append,List.length_cons,List.length_nil] at this ⊢;omega
theorem Jg8 {l:Jd} (h:Sm l):Is (Zt l) fun e=>(¬ Jd4 l∧e=1)∨(Jd4 l∧¬ Rv l∧e=1)∨(Jd4 l∧Rv l∧¬ (Wg l.Joints).Nodup∧e=8)∨(Jd4 l∧Rv l∧(Wg l.Joints).Nodup∧e=0):=by
 unfold Zt;have h1:=h.sec; have h2:=h.el; have h3:=h.jo;refine Is.all (L:=l.Elements) (fun _ x=>Jcb l x) () (by omega) (fun i x hx hi _=>?_) ?_ (fun ha=>?_)
 ·unfold Dv;refine Is.inb hi (Is.at hx (Is.bind (Jll l x) fun r hr=>?_));exact Is.ifn hr (fun hn=>Is.val (.inl ⟨fun q=>hn (q.1 x (List.mem_of_getElem? hx)),rfl⟩)) (fun hy=>Is.val ⟨rfl,hy⟩)
 ·simp [Dv]
 refine Is.all (L:=l.Sections) (fun i _=>∃ x∈l.Elements,x.Section=(i:Nat)) () (by omega) (fun i x hx hi _=>?_) ?_ (fun hn=>?_)
 ·unfold Ea;refine Is.inb hi (Is.to (Jko h.el _) ?_);exact Is.ite (Sq.trans (Jix hi)) (fun hb=>Is.val (.inl ⟨fun q=>hb (q.2 i hi),rfl⟩)) (fun hb=>Is.val ⟨rfl,Classical.not_not.1 hb⟩)
 ·simp [Ea]
 have hE:Jd4 l:=⟨Uy.1 ha,fun s hs=>hn s l.Sections[s] (List.getElem?_eq_getElem hs)⟩
 refine Is.fold (L:=l.Joints) (mk:=fun i m=>(i,m)) (fun i m=>m=Wg (l.Joints.take i)∧∀ j x,j<i→l.Joints[j]? = some x→exS l x.A=true∧exS l x.B=true∧x.A≠x.B) [] (by omega) ⟨rfl,fun j x hj=>by omega⟩ (fun i x m hx hi hI=>?_) (fun m hI=>?_)
 ·unfold Ds;refine Is.inb hi (Is.at hx ?_);simp only [Jdq,Option.bind_some,Vp,Bool.cond_true_left];refine Is.ite (p:=¬ (exS l x.A=true∧exS l x.B=true∧x.A≠x.B)) (by simp only [Bool.or_eq_true,Bool.not_eq_true',Ly]; cases exS l x.A <;> cases exS l x.B <;> simp) (fun hb=>Is.val (.inr (.inl ⟨hE,fun q=>hb (q x (List.mem_of_getElem? hx)),rfl⟩))) (fun hb=>?_);have hlen:m.length≤2 * i:=by
   rw [hI.1,Jhm,List.length_take]; omega
  refine Is.bind (Is.app (by simp only [List.length_cons,List.length_nil,Kx,Enc.b]; omega)) fun M hM=>?_;subst hM;refine Is.val ⟨_,rfl,by rw [hI.1,Ia hx,Jld],fun j y hj hy=>?_⟩
  by_cases e:j=i
  ·subst e; rw [hx] at hy; cases hy; exact Classical.not_not.1 hb
  ·exact hI.2 j y (by omega) hy
 unfold Ds;refine Is.oub (Is.val ?_);obtain ⟨hm,hJ⟩:=hI;rw [List.take_length] at hm;have hJ:Rv l:=Uy.1 fun i x hx=>hJ i x (Wj hx) hx;subst hm;have hlen:(Wg l.Joints).length≤4194304:=by
  rw [Jhm]; omega
 refine Is.bind (Je2 _ hlen) fun r hr=>?_;exact Is.ite hr (fun hd=>Is.val (.inr (.inr (.inl ⟨hE,hJ,hd,rfl⟩)))) (fun hd=>Is.val (.inr (.inr (.inr ⟨hE,hJ,Classical.not_not.1 hd,rfl⟩))))
theorem Jip {l:Jd} (h:Sm l) (hJ:Rv l) (hn:(Wg l.Joints).Nodup):Is (Bu l) fun e =>
  (¬ Jj6 l∧e=1)∨(Jj6 l∧¬ (l.Signals.map (·.At)).Nodup∧e=8)∨(Jj6 l∧(l.Signals.map (·.At)).Nodup∧¬ Jmr l∧e=14)∨(Jj6 l∧(l.Signals.map (·.At)).Nodup∧Jmr l∧e=0):=by
 unfold Bu;have g3:=h.sg; have g4:=h.jo;refine Is.fold (L:=l.Signals) (mk:=fun i m=>(i,m)) (fun i m=>m=(l.Signals.take i).map (·.At)∧∀ j s,j<i→l.Signals[j]? = some s→exS l s.At=true∧0≤s.Overlap∧s.Overlap≤1000000) [] (by omega) ⟨rfl,fun j x hj=>by omega⟩ (fun i x m hx hi hI=>?_) (fun m hI=>?_)
 ·unfold Fg;refine Is.inb hi (Is.at hx ?_);simp only [Jdq,Option.bind_some];refine Is.ite (p:=¬ (exS l x.At=true∧0≤x.Overlap∧x.Overlap≤1000000)) (by cases exS l x.At <;> simp <;> omega) (fun hb=>Is.val (.inl ⟨fun q=>hb (q x (List.mem_of_getElem? hx)),rfl⟩)) (fun hb=>?_);refine Is.bind (Is.app (by rw [hI.1]; simp only [List.length_map,List.length_take,List.length_cons,List.length_nil,Kx,Enc.b]; omega)) fun M hM=>?_;subst hM;refine Is.val ⟨_,rfl,by rw [hI.1,Ia hx]; simp,fun j y hj hy=>?_⟩
  by_cases e:j=i
  ·subst e; rw [hx] at hy; cases hy; exact Classical.not_not.1 hb
  ·exact hI.2 j y (by omega) hy
 unfold Fg;refine Is.oub (Is.val ?_);obtain ⟨hm,h1⟩:=hI;rw [List.take_length] at hm;have h1:Jj6 l:=Uy.1 fun i x hx=>h1 i x (Wj hx) hx;subst hm;refine Is.bind (Je2 _ (by simp only [List.length_map]; omega)) fun r hr=>?_;refine Is.ite hr (fun hd=>Is.val (.inr (.inl ⟨h1,hd,rfl⟩))) (fun hd=>?_);have h2:=Classical.not_not.1 hd;have hJO:Jv4 l:=⟨fun j hj=>⟨(hJ j hj).1,(hJ j hj).2.1⟩,hn⟩
 refine Is.all (L:=l.Signals.map (·.At)) (fun _ e=>(Wq l e).2=true∧Jcq l (Wq l e).1.El≠Jcq l e.El) () (by simp only [List.length_map]; omega) (fun i e hx hi _=>?_) ?_ (fun h3=>?_)
 ·unfold Fk;refine Is.inb hi (Is.at hx (Is.to (Jdn g4 e) ?_));obtain ⟨s,hs,rfl⟩:=List.mem_map.1 (List.mem_of_getElem? hx);refine Is.bind (Is.or (p:=¬ (Wq l s.At).2=true) (q:=Jcq l (Wq l s.At).1.El=Jcq l s.At.El) (Jmv Iff.rfl) fun hp=>?_) fun b hb=>?_
  ·have hc2:=Classical.not_not.1 hp;have hf:exS l (Wq l s.At).1=true:=Jyw hJO (e:=s.At) (by rw [← hc2]);have e1:=Jwj hf;have e2:=Jwj (h1 s hs).1;obtain ⟨x,hx,hx2⟩:=Vv e1;obtain ⟨y,hy,hy2⟩:=Vv e2;rw [hx,hy];refine Is.val ?_;simp [Jcq,e1,e2,hx2,hy2]
  ·refine Is.ite hb (fun hc=>Is.val (.inr (.inr (.inl ⟨h1,h2,fun q=>?_,rfl⟩)))) (fun hc=>Is.val ⟨rfl,Classical.not_not.1 fun q=>hc (.inl q),fun q=>hc (.inr q)⟩);rcases hc with hc|hc
   ·exact hc (q s hs).1
   ·exact (q s hs).2 hc
 ·simp [Fk]
 ·refine Is.val (.inr (.inr (.inr ⟨h1,h2,fun s hs=>?_,rfl⟩)));exact Uy.1 h3 s.At (List.mem_map.2 ⟨s,hs,rfl⟩)
theorem Ji0 {l:Jd} (h:Sm l):Is (Bq l) fun e=>(¬ Jmk l∧e=1)∨(Jmk l∧¬ (l.Balises.map (·.Id)).Nodup∧e=8)∨(Jmk l∧(l.Balises.map (·.Id)).Nodup∧e=0):=by
 unfold Bq;have g3:=h.ba;refine Is.fold (L:=l.Balises) (mk:=fun i m=>(i,m)) (fun i m=>m=(l.Balises.take i).map (·.Id)∧∀ j b,j<i→l.Balises[j]? = some b→1≤b.Id∧b.Id≤1073741824∧Ve l b.El=true∧0≤b.Offset∧b.Offset≤Jnw l b.El) [] (by omega) ⟨rfl,fun j x hj=>by omega⟩ (fun i x m hx hi hI=>?_) (fun m hI=>?_)
 ·unfold Fl;refine Is.inb hi (Is.at hx ?_);simp only [Option.bind_some,Vp,Bool.cond_true_left];refine Is.bind (Is.or (p:=¬ (1≤x.Id∧x.Id≤1073741824∧Ve l x.El=true∧0≤x.Offset)) (q:=¬ x.Offset≤Jnw l x.El) (by simp [Ve]; omega) fun hp=>?_) fun b hb=>?_
  ·have hp:=Classical.not_not.1 hp;obtain ⟨y,h2,h3⟩:=Vv hp.2.2.1;rw [h2];exact Is.val (by simp [Jnw,h3])
  ·refine Is.ite hb (fun hc=>Is.val (.inl ⟨fun q=>?_,rfl⟩)) (fun hc=>?_)
   ·have q1:=q x (List.mem_of_getElem? hx);rcases hc with hc|hc
    ·exact hc ⟨q1.1,q1.2.1,q1.2.2.1,q1.2.2.2.1⟩
    ·exact hc q1.2.2.2.2
   ·refine Is.bind (Is.app (by rw [hI.1]; simp only [List.length_map,List.length_take,List.length_cons,List.length_nil,Kx,Enc.b]; omega)) fun M hM=>?_;subst hM;refine Is.val ⟨_,rfl,by rw [hI.1,Ia hx]; simp,fun j y hj hy=>?_⟩
    by_cases e:j=i
    ·subst e; rw [hx] at hy; cases hy;have q1:1≤x.Id∧x.Id≤1073741824∧Ve l x.El=true∧0≤x.Offset:=Classical.not_not.1 fun q=>hc (.inl q);exact ⟨q1.1,q1.2.1,q1.2.2.1,q1.2.2.2,Classical.not_not.1 fun q=>hc (.inr q)⟩
    ·exact hI.2 j y (by omega) hy
 unfold Fl;refine Is.oub (Is.val ?_);obtain ⟨hm,h1⟩:=hI;rw [List.take_length] at hm;have h1:Jmk l:=Uy.1 fun i x hx=>h1 i x (Wj hx) hx;subst hm;refine Is.bind (Jim _ (by simp only [List.length_map]; omega)) fun r hr=>?_;exact Is.ite hr (fun hd=>Is.val (.inr (.inl ⟨h1,hd,rfl⟩))) (fun hd=>Is.val (.inr (.inr ⟨h1,Classical.not_not.1 hd,rfl⟩)))
theorem Jlw {l:Jd} (h:Sm l):Is (Ci l) fun e=>e=chk l:=by
 unfold Ci;refine Is.bind (Jlj h) fun e he=>?_;rcases he with ⟨hc,rfl⟩|⟨hc,h1,rfl⟩|⟨hc,h1,h2,rfl⟩|⟨hc,h1,h2,rfl⟩
 ·exact Is.val (by simp [chk,hc])
 ·exact Is.val (by simp [chk,hc,h1])
 ·exact Is.val (by simp [chk,hc,h1,h2])
 show Is ((Zt l).bind _) _;refine Is.bind (Jg8 h) fun e he=>?_;rcases he with ⟨h3,rfl⟩|⟨h3,h4,rfl⟩|⟨h3,h4,h5,rfl⟩|⟨h3,h4,h5,rfl⟩
 ·exact Is.val (by simp [chk,hc,h1,h2,h3])
 ·exact Is.val (by simp [chk,hc,h1,h2,h3,h4])
 ·exact Is.val (by simp [chk,hc,h1,h2,h3,h4,h5])
 show Is ((Bu l).bind _) _;refine Is.bind (Jip h h4 h5) fun e he=>?_;rcases he with ⟨h6,rfl⟩|⟨h6,h7,rfl⟩|⟨h6,h7,h8,rfl⟩|⟨h6,h7,h8,rfl⟩
 ·exact Is.val (by simp [chk,hc,h1,h2,h3,h4,h5,h6])
 ·exact Is.val (by simp [chk,hc,h1,h2,h3,h4,h5,h6,h7])
 ·exact Is.val (by simp [chk,hc,h1,h2,h3,h4,h5,h6,h7,h8])
 show Is ((Bq l).bind _) _;refine Is.bind (Ji0 h) fun e he=>?_;rcases he with ⟨h9,rfl⟩|⟨h9,h10,rfl⟩|⟨h9,h10,rfl⟩
 ·exact Is.val (by simp [chk,hc,h1,h2,h3,h4,h5,h6,h7,h8,h9])
 ·exact Is.val (by simp [chk,hc,h1,h2,h3,h4,h5,h6,h7,h8,h9,h10])
 ·exact Is.val (by simp [chk,hc,h1,h2,h3,h4,h5,h6,h7,h8,h9,h10])
end PM
namespace PM
open Go Go.RowKit
structure OkL (l:Jd):Prop where
 counts:Iu l
 names:Lh l
 dist:Jh4 l
 elem:Jd4 l
 joint:Rv l
 ends:(Wg l.Joints).Nodup
 sig:Jj6 l
 sigd:(l.Signals.map (·.At)).Nodup
 safe:Jmr l
 bal:Jmk l
 bald:(l.Balises.map (·.Id)).Nodup
theorem Jyh (l:Jd):chk l=0↔OkL l:=by
 constructor
 ·intro h;unfold chk at h
  by_cases h1:Iu l
  ·by_cases h2:Lh l
   ·by_cases h3:Jh4 l
    ·by_cases h4:Jd4 l
     ·by_cases h5:Rv l
      ·by_cases h6:(Wg l.Joints).Nodup
       ·by_cases h7:Jj6 l
        ·by_cases h8:(l.Signals.map (·.At)).Nodup
         ·by_cases h9:Jmr l
          ·by_cases h10:Jmk l
           ·by_cases h11:(l.Balises.map (·.Id)).Nodup
            ·exact ⟨h1,h2,h3,h4,h5,h6,h7,h8,h9,h10,h11⟩
            ·simp [h1,h2,h3,h4,h5,h6,h7,h8,h9,h10,h11] at h
           ·simp [h1,h2,h3,h4,h5,h6,h7,h8,h9,h10] at h
          ·simp [h1,h2,h3,h4,h5,h6,h7,h8,h9] at h
         ·simp [h1,h2,h3,h4,h5,h6,h7,h8] at h
        ·simp [h1,h2,h3,h4,h5,h6,h7] at h
       ·simp [h1,h2,h3,h4,h5,h6] at h
      ·simp [h1,h2,h3,h4,h5] at h
     ·simp [h1,h2,h3,h4] at h
    ·simp [h1,h2,h3] at h
   ·simp [h1,h2] at h
  ·simp [h1] at h
 ·rintro ⟨h1,h2,h3,h4,h5,h6,h7,h8,h9,h10,h11⟩;simp [chk,h1,h2,h3,h4,h5,h6,h7,h8,h9,h10,h11]
theorem Jc8 {l:Jd} (h:Sm l):Df l=some (chk l):=by
 obtain ⟨r,h1,rfl⟩:=Jlz h; exact h1
theorem Jna {l:Jd} (h:Sm l):Ci l=some (chk l):=by
 obtain ⟨r,h1,rfl⟩:=Jlw h; exact h1
end PM
namespace PM
open Go Go.RowKit
def Cu (l:Jd) (way:List Jh):Int:=match way.getLast? with|some s=>lenOf l s|none=>0
def Jf5 (l:Jd) (way:List Jh) (h:Int):Int:=Ck l way.dropLast+h
def Jbm (l:Jd) (way:List Jh):Int:=match way with|s::_=>lenOf l s|[]=>0
theorem Jw7 {l:Jd} {way:List Jh} (h:way≠[]):Ck l way=Ck l way.dropLast+Cu l way:=by
 have e:=congrArg (Ck l) (List.dropLast_concat_getLast h);rw [Re] at e;rw [← e];simp [Cu,List.getLast?_eq_some_getLast h,Ck]
section
variable {l:Jd} {len:Int}
end
def Jye (l:Jd) (i:Int):Int:=((l.Elements[i.toNat]?).map (·.Kind)).getD 0
structure MvR where
 way:List Jh
 head:Int
 left:Int
 ended:Bool
structure OkB (l:Jd) (b:Kh):Prop where
 valid:Cz l b.Steps
 len:1≤b.Length∧b.Length≤1000000
 head:1≤b.Head∧b.Head≤Cu l b.Steps
 str:b.Length≤Jf5 l b.Steps b.Head
 fst:1<b.Steps.length→Jf5 l b.Steps b.Head - Jbm l b.Steps<b.Length
end PM
namespace PM
open Go Go.RowKit
theorem Cz.has {l:Jd} {way:List Jh} (h:Cz l way) {s:Jh} (hs:s∈way):Ve l s.El=true:=by
 obtain ⟨i,hi,e⟩:=List.mem_iff_getElem.1 hs;obtain ⟨t,h1,h2,-⟩:=h.2.2 i hi;rw [List.getElem?_eq_getElem hi,e] at h1;cases h1;exact Kas h2
theorem Cz.ne {l:Jd} {way:List Jh} (h:Cz l way):way≠[]:=by
 rintro rfl; have:=h.1; simp at this
theorem OkL.lens {l:Jd} (hl:OkL l) {s:Jh} (h:Ve l s.El=true):500≤lenOf l s∧lenOf l s≤1000000:=by
 obtain ⟨x,h1,h2⟩:=Vv h;have:=hl.elem.1 x (List.mem_of_getElem? h2);simp only [lenOf,h,h2,cond_true,Option.map_some,Option.getD_some];exact this.2.1
theorem OkL.sum {l:Jd} (hl:OkL l):∀ {way:List Jh},(∀ s∈way,Ve l s.El=true)→0≤Ck l way∧Ck l way≤1000000 * way.length
 | [],_=>by simp [Ck]
 | s::r,h=>by
  have h1:=hl.lens (h s (by simp));have h2:=hl.sum (way:=r) fun t ht=>h t (by simp [ht]);simp only [Ck,List.length_cons]; omega
theorem OkL.last {l:Jd} (hl:OkL l) {way:List Jh} (h:Cz l way):500≤Cu l way∧Cu l way≤1000000:=by
 have:=List.getLast?_eq_some_getLast h.ne;simp only [Cu,this];exact hl.lens (h.has (List.getLast_mem h.ne))
end PM
namespace PM
open Go Go.RowKit
theorem Jn7 {α:Type} {L:List α} (hn:L≠[]) (h:L.length≤1048576):ixO L (w64 (((L.length:Nat):Int) - 1))=some (L.getLast hn):=by
 have:=List.length_pos_iff.2 hn;have e:w64 (((L.length:Nat):Int) - 1)=((L.length - 1:Nat):Int):=by rw [Dn (by omega) (by omega)]; omega
 rw [e,List.getLast_eq_getElem];exact Ha (List.getElem?_eq_getElem (by omega))
theorem Jrp {l:Jd} {s:Jh} (h:Ve l s.El=true):∃ x,ixO l.Elements s.El=some x∧x.Length=lenOf l s∧x.Kind=Jye l s.El:=by
 obtain ⟨x,h1,h2⟩:=Vv h;exact ⟨x,h1,by simp [lenOf,h,h2],by simp [Jye,h2]⟩
theorem Jr0 {l:Jd} {s:Jh} (h:Ve l s.El=true):Dy l s=some (lenOf l s):=by
 obtain ⟨x,h1,h2,-⟩:=Jrp h;simp [Dy,h1,h2]
theorem Jcz {l:Jd} {way:List Jh} (hn:way≠[]):Cu l way=lenOf l (way.getLast hn):=by
 simp [Cu,List.getLast?_eq_some_getLast hn]
structure Bd (b:Kh):Prop where
 head:0≤b.Head∧b.Head≤1000000
 len:1≤b.Length∧b.Length≤1000000
theorem Jzr {l:Jd} (hl:OkL l) {way:List Jh} (hv:Cz l way) {h:Int} (hh:0≤h∧h≤1000000):0≤Jf5 l way h∧Jf5 l way h≤65000000:=by
 have h1:=hl.sum (way:=way.dropLast) fun s hs=>hv.has ((List.dropLast_sublist way).subset hs);have h2:=hv.2.1;simp only [List.length_dropLast] at h1;unfold Jf5; omega
theorem Juk {l:Jd} (hl:OkL l) {b:Kh} (hv:Cz l b.Steps) (hb:Bd b):Fr l b=some (Jf5 l b.Steps b.Head - b.Length):=by
 have hn:=hv.ne;have h0:=hv.1;have h64:=hv.2.1;have h1:=hb.head;have h2:=hb.len;have h3:=Jzr hl hv h1;have e:w64 (((b.Steps.length:Nat):Int) - 1)=((b.Steps.length - 1:Nat):Int):=by rw [Dn (by omega) (by omega)]; omega
 unfold Fr;rw [e,Jut (by omega),Option.bind_some,← List.dropLast_eq_take,Th _ _ (by simp; omega),Option.bind_some,Jrd];unfold Jf5 at h3 ⊢;rw [Dn (n:=Ck l b.Steps.dropLast+b.Head) (by omega) (by omega),Dn (by omega) (by omega)]
theorem Jvh {l:Jd} (hl:OkL l) {b:Kh} (hv:Cz l b.Steps) (hb:0≤b.Head∧b.Head≤1000000):Eh l b=some (Jf5 l b.Steps b.Head):=by
 have h0:=hv.1;have h64:=hv.2.1;have:Is (Ki (Bx l b) (b.Head,0)) fun o=>o=.inl (Jf5 l b.Steps b.Head):=by
  refine Is.loop (mk:=fun (i:Nat) (n:Int)=>(n,(i:Int))) (b.Steps.length - 1) (fun i n=>n=b.Head+Ck l (b.Steps.take i)) b.Head (by simp [Ck]) ?_ ?_
  ·rintro i n hi rfl;unfold Bx;simp only;rw [Pv (by omega)];refine Is.cond (fun _=>?_) (fun hb=>by simp at hb; omega);have hi':i<b.Steps.length:=by omega
   refine Is.bind (Is.ixn hi') fun s hs=>?_;have hm:=hv.has (List.mem_of_getElem? hs);rw [Jr0 hm,Option.bind_some];have e:Ck l (b.Steps.take (i+1))=Ck l (b.Steps.take i)+lenOf l s:=by
    rw [List.take_add_one,hs,Option.toList_some,Re]; simp [Ck]
   have h1:=hl.sum (way:=b.Steps.take i) fun s hs=>hv.has (List.mem_of_mem_take hs);have h2:=hl.lens hm;simp only [List.length_take] at h1;refine Is.val ⟨_,rfl, ?_⟩;rw [e,Dn (by omega) (by omega)]; omega
  ·rintro n rfl;unfold Bx;simp only;rw [Pv (by omega)];refine Is.cond (fun hb=>by simp at hb; omega) (fun _=>Is.val ?_);rw [Jf5,List.dropLast_eq_take,Int.add_comm]
 obtain ⟨o,h1,rfl⟩:=this;simp [Eh,h1,onInl,Jbd]
theorem Jsk {α:Type} {s:α} {r:List α}:ixO (s::r) 0=some s:=Ha (i:=0) rfl
open Classical in
noncomputable def Jru (l:Jd) (b:Kh):Int :=
 if ¬ (Cz l b.Steps∧(1≤b.Length∧b.Length≤1000000)∧1≤b.Head∧b.Head≤Cu l b.Steps) then 1 else
 if Jf5 l b.Steps b.Head<b.Length∨(1<b.Steps.length∧b.Length≤Jf5 l b.Steps b.Head - Jbm l b.Steps) then 10 else 0
theorem Ka6 (l:Jd) (b:Kh):Jru l b=0↔OkB l b:=by
 unfold Jru;constructor
 ·intro h;split at h
  ·cases h
  next h1 =>
   split at h
   ·cases h
   next h2 =>
    obtain ⟨h3,h4,h5⟩:=Classical.not_not.1 h1;exact ⟨h3,h4,h5,by omega,fun h6=>by omega⟩
 ·rintro ⟨h1,h2,h3,h4,h5⟩;rw [if_neg (by simp [h1,h2,h3]),if_neg (by omega)]
theorem Jpq {l:Jd} (hs:Sm l) (hl:OkL l) (b:Kh) (hb:b.Steps.length≤1000):Gx l b=some (Jru l b):=by
 suffices Is (Gx l b) fun r=>r=Jru l b by obtain ⟨r,h1,rfl⟩:=this; exact h1
 unfold Gx;refine Is.bind (Jpj l b.Steps hs.jo (by omega)) fun v hv=>?_;refine Is.bind (φ:=fun c=>c=true↔¬ (Cz l b.Steps∧(1≤b.Length∧b.Length≤1000000)∧1≤b.Head∧b.Head≤Cu l b.Steps)) ?_ fun c hc=>?_
 ·refine Is.cond (fun h=>Is.val ?_) (fun h=>?_)
  ·simp only [Bool.or_eq_true,Bool.not_eq_true',decide_eq_true_eq] at h;refine ⟨fun _ hn=>?_,fun _=>rfl⟩;have:=hv.2 hn.1;rcases h with ((h|h)|h)|h
   ·rw [this] at h; cases h
   all_goals omega
  ·simp only [Bool.or_eq_false_iff,Bool.not_eq_false',decide_eq_false_iff_not] at h;have hv':=hv.1 h.1.1.1;have hh:=hv'.has (List.getLast_mem hv'.ne);obtain ⟨x,h1,h2,-⟩:=Jrp hh;simp only [Xu,Jn7 hv'.ne (by omega:b.Steps.length≤1048576),Option.bind_some,h1,h2];refine Is.val ?_;rw [decide_eq_true_iff,Jcz hv'.ne];constructor
   ·intro h3 h4; omega
   ·intro h3;apply Classical.byContradiction;intro h4;exact h3 ⟨hv',by omega,by omega,by omega⟩
 ·unfold Jru;refine Is.cond (fun h=>Is.val ?_) (fun h=>?_)
  ·rw [if_pos (hc.1 h)]
  ·have hg:=(Sr hc).1 h;rw [if_neg hg];obtain ⟨g1,g2,g3⟩:=Classical.not_not.1 hg;have g4:=hl.last g1;rw [Juk hl g1 ⟨⟨by omega,by omega⟩,g2⟩,Option.bind_some];refine Is.bind (φ:=fun c=>c=true↔(Jf5 l b.Steps b.Head<b.Length∨(1<b.Steps.length∧b.Length≤Jf5 l b.Steps b.Head - Jbm l b.Steps))) ?_ fun c hc=>?_
   ·refine Is.or (by rw [decide_eq_true_iff]; omega) (fun h5=>?_)
    match hst:b.Steps,g1 with
    | [],g1=>exact absurd rfl g1.ne
    | s::r,g1 =>
     obtain ⟨x,h1,h2,-⟩:=Jrp (g1.has (s:=s) (by simp));simp only [Jsk,Option.bind_some,h1,h2,Vp,Bool.cond_false_right];refine Is.val ?_;simp only [Bool.and_eq_true,decide_eq_true_eq,Jbm];omega
   ·refine Is.cond (fun h=>Is.val ?_) (fun h=>Is.val ?_)
    ·rw [if_pos (hc.1 h)]
    ·rw [if_neg ((Sr hc).1 h)]
theorem Joh {l:Jd} (hs:Sm l) (hl:OkL l) (b:Kh) (hb:b.Steps.length≤1000):Ew l b=some (Jru l b):=by
 suffices Is (Ew l b) fun r=>r=Jru l b by obtain ⟨r,h1,rfl⟩:=this; exact h1
 unfold Ew;refine Is.bind (Jmw l b.Steps hs.jo (by omega)) fun v hv=>?_;refine Is.bind (φ:=fun c=>c=true↔¬ (Cz l b.Steps∧(1≤b.Length∧b.Length≤1000000)∧1≤b.Head∧b.Head≤Cu l b.Steps)) ?_ fun c hc=>?_
 ·refine Is.cond (fun h=>Is.val ?_) (fun h=>?_)
  ·simp only [Bool.or_eq_true,Bool.not_eq_true',decide_eq_true_eq] at h;refine ⟨fun _ hn=>?_,fun _=>rfl⟩;have:=hv.2 hn.1;rcases h with ((h|h)|h)|h
   ·rw [this] at h; cases h
   all_goals omega
  ·simp only [Bool.or_eq_false_iff,Bool.not_eq_false',decide_eq_false_iff_not] at h;have hv':=hv.1 h.1.1.1;have hh:=hv'.has (List.getLast_mem hv'.ne);simp only [Jn7 hv'.ne (by omega:b.Steps.length≤1048576),Option.bind_some,Jr0 hh];refine Is.val ?_;rw [decide_eq_true_iff,Jcz hv'.ne];constructor
   ·intro h3 h4; omega
   ·intro h3;apply Classical.byContradiction;intro h4;exact h3 ⟨hv',by omega,by omega,by omega⟩
 ·unfold Jru;refine Is.cond (fun h=>Is.val ?_) (fun h=>?_)
  ·rw [if_pos (hc.1 h)]
  ·have hg:=(Sr hc).1 h;rw [if_neg hg];obtain ⟨g1,g2,g3⟩:=Classical.not_not.1 hg;have g4:=hl.last g1;have g5:0≤b.Head∧b.Head≤1000000:=⟨by omega,by omega⟩
   have g6:=Jzr hl g1 g5;rw [Jvh hl g1 g5,Option.bind_some];refine Is.bind (φ:=fun c=>c=true↔(Jf5 l b.Steps b.Head<b.Length∨(1<b.Steps.length∧b.Length≤Jf5 l b.Steps b.Head - Jbm l b.Steps))) ?_ fun c hc=>?_
   ·refine Is.or (by rw [decide_eq_true_iff]) (fun h5=>?_)
    match hst:b.Steps,g1,g6 with
    | [],g1,_=>exact absurd rfl g1.ne
    | s::r,g1,g6 =>
     have hh:=g1.has (s:=s) (by simp);have g7:=hl.lens hh;simp only [Jsk,Option.bind_some,Jr0 hh,Vp,Bool.cond_false_right];rw [Dn (by omega) (by omega)];refine Is.val ?_;simp only [Bool.and_eq_true,decide_eq_true_eq,Jbm];omega
   ·refine Is.cond (fun h=>Is.val ?_) (fun h=>Is.val ?_)
    ·rw [if_pos (hc.1 h)]
    ·rw [if_neg ((Sr hc).1 h)]
end PM
namespace PM
open Go Go.RowKit
def Xl (l:List Int):Prop:=l.Pairwise (·<·)
theorem Xl.one {a b:List Int} (ha:Xl a) (hb:Xl b) (h:∀ x,x∈a↔x∈b):a=b :=
 Jgl (lt:=fun x y=>decide (x<y)) (fun x=>by simp) (fun x y z h1 h2=>by simp at h1 h2 ⊢; omega) a b (ha.imp fun h=>decide_eq_true h) (hb.imp fun h=>decide_eq_true h) h
theorem Xl.at {L:List Int} (h:Xl L) {i j:Nat} {x y:Int} (hx:L[i]? = some x) (hy:L[j]? = some y) (hij:i<j):x<y:=by
 have h1:=Wj hx;have h2:=Wj hy;rw [List.getElem?_eq_getElem h1] at hx; cases hx;rw [List.getElem?_eq_getElem h2] at hy; cases hy;exact (List.pairwise_iff_getElem.1 h) i j h1 h2 hij
theorem Jil (L:List Int) (x:Int) (h:L.length≤1048576):Ll L x=some (decide (x∈L)):=by
 unfold Ll;rw [Ja5 (fun y=>decide (y=x)) (fun _=>.inr true) (.inl ()) L (by omega)]
 ·cases hf:L.find? (fun y=>decide (y=x)) with
  | none =>
   rw [List.find?_eq_none] at hf;have:¬ x∈L:=fun hx=>hf x hx (by simp);simp [onInl,Jbd,this]
  | some y =>
   have h1:=List.mem_of_find?_eq_some hf;have h2:=List.find?_some hf;simp only [decide_eq_true_eq] at h2;subst h2;simp [onInl,Jbd,h1]
 ·intro i y hy;have hi:=Wj hy;simp only [Pe,Ha hy,show decide ((i:Int)<((L.length:Nat):Int))=true by simp; omega,cond_true,Option.bind_some]
 ·simp [Pe]
structure Kcn (L:List Int) (x:Int) (i:Nat) (d:Bool) (o:List Int):Prop where
 asc:Xl o
 mem:∀ y,y∈o↔y∈L.take i∨(d=true∧y=x)
 len:o.length≤i+1
 no:d=false→∀ y∈L.take i,y<x
 yes:d=true→∀ (j:Nat) y,i≤j→L[j]? = some y→x<y
theorem Jwg {L:List Int} (h:Xl L) {i:Nat} {y z:Int} (hy:L[i]? = some y) (hz:z∈L.take i):z<y:=by
 obtain ⟨j,hj⟩:=List.mem_iff_getElem?.1 hz;have h1:=Wj hj;rw [List.length_take] at h1;rw [List.getElem?_take] at hj;split at hj
 ·exact h.at hj hy (by omega)
 ·cases hj
theorem Jdc (L:List Int) (x:Int) (hL:Xl L) (h:L.length≤1000000):Is (Zy L x) fun M=>Xl M∧(∀ y,y∈M↔y∈L∨y=x)∧M.length≤L.length+1:=by
 unfold Zy;rw [Jil L x (by omega),Option.bind_some];refine Is.ite (p:=x∈L) Sq (fun hx=>Is.val ⟨hL,fun y=>⟨.inl, ?_⟩,by omega⟩) (fun hx=>?_)
 ·rintro (h|rfl)
  ·exact h
  ·exact hx
 refine Is.onInl (θ:=fun o=>∃ r,o=.inl r∧Kcn L x L.length r.2 r.1) ?_ ?_ (fun b hb=>by obtain ⟨_,hb,_⟩:=hb; cases hb)
 ·refine Is.loop (mk:=fun (i:Nat) (s:Bool×List Int)=>(s.1,(i:Int),s.2)) L.length (fun i s=>Kcn L x i s.1 s.2) (false,[]) ⟨List.Pairwise.nil,fun y=>by simp,by simp,fun _ y hy=>by simp at hy,fun h=>by cases h⟩ ?_ ?_
  ·rintro i ⟨d,o⟩ hi hI;unfold Gu;simp only at hI;obtain ⟨y,hy⟩:∃ y,L[i]? = some y:=⟨_,List.getElem?_eq_getElem hi⟩
   have hlen:=hI.len;have hmem:y∈L:=List.mem_of_getElem? hy;have e0:decide ((i:Int)<((L.length:Nat):Int))=true:=decide_eq_true (by omega);simp only [Ha hy,e0,cond_true,Option.bind_some,Vp,Bool.cond_false_right];refine Is.onInl (θ:=fun v=>∃ r,v=.inl r∧r.1.length≤i+2 - 1+1 - 1+1∧Kcn L x (i+1) r.2 (r.1++[y])) ?_ ?_ (fun b hb=>by obtain ⟨_,hb,_⟩:=hb; cases hb)
   ·refine Is.cond (fun hc=>?_) (fun hc=>?_)
    ·simp only [Bool.and_eq_true,Bool.not_eq_true',decide_eq_true_eq] at hc;obtain ⟨rfl,hc⟩:=hc;have hol:o.length≤i:=by
      have e:o=L.take i:=hI.asc.one (hL.sublist (List.take_sublist i L)) (fun z=>by rw [hI.mem]; simp);rw [e,List.length_take]; omega
     refine Is.bind (Is.app (by simp only [List.length_cons,List.length_nil,Kx,Enc.b]; omega)) fun M hM=>?_;subst hM;refine Is.val ⟨_,rfl,by simp; omega, ?_⟩;refine ⟨?_,fun z=>?_,by simp; omega,fun h=>(by cases h),fun _ j z hj hz=>?_⟩
     ·unfold Xl;rw [List.append_assoc,List.pairwise_append];refine ⟨hI.asc,by simp [hc],fun a ha b hb=>?_⟩;have h1:a∈L.take i:=by
       have:=(hI.mem a).1 ha;rcases this with h|⟨h,_⟩
       ·exact h
       ·cases h
      have h2:=hI.no rfl a h1;simp at hb;rcases hb with rfl|rfl <;> omega
     ·rw [Bv hy];simp only [List.mem_append,List.mem_singleton,hI.mem,Bool.false_eq_true,false_and,or_false,true_and];exact or_right_comm
     ·by_cases e:j=i
      ·subst e; rw [hy] at hz; cases hz; exact hc
      ·exact Int.lt_trans hc (hL.at hy hz (by omega))
    ·have hol:o.length≤i+1:=hI.len;refine Is.val ⟨_,rfl,by simp; omega, ?_⟩;have hd:d=false→y<x:=by
      rintro rfl;simp only [Bool.not_false,Bool.true_and,decide_eq_false_iff_not] at hc;have:y≠x:=fun e=>hx (e▸hmem);omega
     refine ⟨?_,fun z=>?_, ?_,fun h z hz=>?_,fun h j z hj hz=>hI.yes h j z (by omega) hz⟩
     ·unfold Xl;rw [List.pairwise_append];refine ⟨hI.asc,by simp,fun a ha b hb=>?_⟩;simp at hb; subst hb;rcases (hI.mem a).1 ha with h|⟨h,rfl⟩
      ·exact Jwg hL hy h
      ·exact hI.yes h i _ (Nat.le_refl _) hy
     ·rw [Bv hy];simp only [List.mem_append,List.mem_singleton,hI.mem];exact or_right_comm
     ·simp; omega
     ·rw [Bv hy] at hz;rcases List.mem_append.1 hz with hz|hz
      ·exact hI.no h z hz
      ·simp at hz; subst hz; exact hd h
   ·rintro ⟨o',d'⟩ ⟨r,hr,hl,hI'⟩;cases hr;refine Is.bind (Is.app (by simp only [List.length_cons,List.length_nil,Kx,Enc.b]; simp only at hl; omega)) fun M hM=>?_;subst hM;exact Is.val ⟨(d',o'++[y]),by rw [Pv (by omega)],hI'⟩
  ·rintro ⟨d,o⟩ hI;unfold Gu;have e0:decide (((L.length:Nat):Int)<((L.length:Nat):Int))=false:=decide_eq_false (by omega);simp only [e0,cond_false];exact Is.val ⟨_,rfl,hI⟩
 ·rintro ⟨o,d⟩ ⟨r,hr,hI⟩;cases hr;simp only at hI;have hlen:=hI.len;refine Is.onInl (θ:=fun v=>∃ M,v=.inl M∧Xl M∧(∀ y,y∈M↔y∈L∨y=x)∧M.length≤L.length+1) ?_ (fun v hv=>?_) (fun b hb=>by obtain ⟨_,hb,_⟩:=hb; cases hb)
  ·cases d with
   | true =>
    simp only [Bool.not_true,cond_false];exact Is.val ⟨_,rfl,hI.asc,fun y=>by rw [hI.mem]; simp,hlen⟩
   | false =>
    have hol:o=L:=hI.asc.one hL (fun z=>by rw [hI.mem]; simp);subst hol;simp only [Bool.not_false,cond_true];refine Is.bind (Is.app (by simp only [List.length_cons,List.length_nil,Kx,Enc.b]; omega)) fun M hM=>?_;subst hM;refine Is.val ⟨_,rfl, ?_,fun y=>by simp,by simp⟩;unfold Xl;rw [List.pairwise_append];refine ⟨hL,by simp,fun a ha b hb=>?_⟩;simp at hb; subst hb;exact hI.no rfl a (by rw [List.take_length]; exact ha)
  ·obtain ⟨M,rfl|_,h1,h2,h3⟩:=hv;exact Is.val ⟨h1,h2,h3⟩
theorem Jpd (L:List Int) (h:L.length≤1000000):Is (Gh L) fun M=>Xl M∧∀ y,y∈M↔y∈L:=by
 unfold Gh;refine Is.onInl (θ:=fun o=>∃ M,o=.inl M∧Xl M∧(∀ y,y∈M↔y∈L)) ?_ (fun v hv=>?_) (fun b hb=>by obtain ⟨_,hb,_⟩:=hb; cases hb)
 ·first
   | refine Is.loop (mk:=fun (i:Nat) (o:List Int)=>(o,(i:Int))) L.length (fun i o=>Xl o∧(∀ y,y∈o↔y∈L.take i)∧o.length≤i) [] ⟨List.Pairwise.nil,fun y=>by simp,by simp⟩ ?_ ?_
   | refine Is.loop (mk:=fun (i:Nat) (o:List Int)=>((i:Int),o)) L.length (fun i o=>Xl o∧(∀ y,y∈o↔y∈L.take i)∧o.length≤i) [] ⟨List.Pairwise.nil,fun y=>by simp,by simp⟩ ?_ ?_
  ·rintro i o hi ⟨h1,h2,h3⟩;unfold Nm;obtain ⟨y,hy⟩:∃ y,L[i]? = some y:=⟨_,List.getElem?_eq_getElem hi⟩
   have e0:decide ((i:Int)<((L.length:Nat):Int))=true:=decide_eq_true (by omega);simp only [Ha hy,e0,cond_true,Option.bind_some];refine Is.bind (Jdc o y h1 (by omega)) fun M hM=>?_;refine Is.val ⟨_,by rw [Pv (by omega)],hM.1,fun z=>?_,by have:=hM.2.2; omega⟩;rw [hM.2.1,h2,Bv hy]; simp
  ·rintro o ⟨h1,h2,h3⟩;unfold Nm;have e0:decide (((L.length:Nat):Int)<((L.length:Nat):Int))=false:=decide_eq_false (by omega);simp only [e0,cond_false];exact Is.val ⟨_,rfl,h1,fun y=>by rw [h2,List.take_length]⟩
 ·obtain ⟨M,rfl|_,h1,h2⟩:=hv;exact Is.val ⟨h1,h2⟩
theorem Jl8 (l:Jd) (i:Int):Vf l i=some (Jcq l i):=by
 unfold Vf Jcq;simp only [Vp,Option.bind_some,Bool.cond_true_left];have e:(decide (i<0)||decide (((l.Elements.length:Nat):Int)≤i)) = !Ve l i:=by
  unfold Ve; rw [Bool.eq_iff_iff]; simp
 rw [e];cases h:Ve l i with
 | false=>rfl
 | true =>
  obtain ⟨x,h2,h3⟩:=Vv h;simp [h2,h3]
theorem Jqm {l:Jd} (hl:OkL l) (s:Jh) (x:Int):Ny l s=some x↔0≤Jcq l s.El∧Jcq l s.El=x:=by
 unfold Ny Jcq;cases h:Ve l s.El with
 | false=>simp
 | true =>
  obtain ⟨y,h2,h3⟩:=Vv h;have hr:=(hl.elem.1 y (List.mem_of_getElem? h3)).2.2.2.2.1;simp only [h3,cond_true,Option.map_some,Option.getD_some,Option.some.injEq];constructor
  ·rintro rfl; exact ⟨hr.1,rfl⟩
  ·rintro ⟨_,h⟩; exact h
theorem Jj0 {l:Jd} (b:Kh) (hb:b.Steps.length≤1000):Is (Ed l b) fun M=>Xl M∧∀ x,x∈M↔x∈Lj l b.Steps:=by
 unfold Ed;have e:Fe l b.Steps=some (Lj l b.Steps):=Jki l b.Steps (by omega);rw [e,Option.bind_some,Nq,Option.bind_some];refine Is.val ⟨?_,fun x=>by rw [List.mem_mergeSort]⟩;have h1:((Lj l b.Steps).mergeSort fun x y=>decide (x≤y)).Pairwise fun x y=>decide (x≤y)=true :=
  List.pairwise_mergeSort (fun a b c h1 h2=>by simp at h1 h2 ⊢; omega) (fun a b=>by simp; omega) _
 have h2:((Lj l b.Steps).mergeSort fun x y=>decide (x≤y)).Nodup:=(List.mergeSort_perm _ _).nodup_iff.2 (Jul l b.Steps);unfold Xl;exact (h1.and h2).imp fun {x y} h=>by
  have:=h.1; have h3:=h.2;simp only [decide_eq_true_eq] at this;omega
theorem Jad {l:Jd} (hl:OkL l) (b:Kh) (hb:b.Steps.length≤1000):Is (Zo l b) fun M=>Xl M∧∀ x,x∈M↔x∈Lj l b.Steps:=by
 unfold Zo;refine Is.onInl (θ:=fun o=>o=.inl (b.Steps.filterMap (Ny l))) ?_ (fun v hv=>?_) (fun b hb=>by cases hb)
 ·refine Is.loop (mk:=fun (i:Nat) (o:List Int)=>((i:Int),o)) b.Steps.length (fun i o=>o=(b.Steps.take i).filterMap (Ny l)) [] (by simp) ?_ ?_
  ·rintro i o hi rfl;unfold Dw;obtain ⟨s,hs⟩:∃ y,b.Steps[i]? = some y:=⟨_,List.getElem?_eq_getElem hi⟩
   have e0:decide ((i:Int)<((b.Steps.length:Nat):Int))=true:=decide_eq_true (by omega);have hl':((b.Steps.take i).filterMap (Ny l)).length≤i:=Nat.le_trans (List.length_filterMap_le _ _) (by rw [List.length_take]; omega);simp only [Ha hs,e0,cond_true,Option.bind_some,Jl8];refine Is.onInl (θ:=fun o=>o=.inl ((b.Steps.take (i+1)).filterMap (Ny l))) ?_ (fun v hv=>?_) (fun b hb=>by cases hb)
   ·rw [Bv hs,List.filterMap_append];refine Is.cond (fun hc=>?_) (fun hc=>?_)
    ·have e:=(Jqm hl s (Jcq l s.El)).2 ⟨of_decide_eq_true hc,rfl⟩;refine Is.bind (Is.app (by simp only [List.length_cons,List.length_nil,Kx,Enc.b]; omega)) fun M hM=>?_;subst hM;exact Is.val (by simp [e])
    ·have e:Ny l s=none:=by
      cases h:Ny l s with
      | none=>rfl
      | some x=>exact absurd ((Jqm hl s x).1 h).1 (of_decide_eq_false hc)
     exact Is.val (by simp [e])
   ·cases hv;exact Is.val ⟨_,by rw [Pv (by omega)],rfl⟩
  ·rintro o rfl;unfold Dw;have e0:decide (((b.Steps.length:Nat):Int)<((b.Steps.length:Nat):Int))=false:=decide_eq_false (by omega);simp only [e0,cond_false];exact Is.val (by rw [List.take_length])
 ·cases hv;have h1:(b.Steps.filterMap (Ny l)).length≤b.Steps.length:=List.length_filterMap_le _ _;refine Is.bind (Jpd _ (by omega)) fun M hM=>Is.val ⟨hM.1,fun x=>?_⟩;rw [hM.2,Lj,Jxj]
end PM
namespace PM
open Go Go.RowKit
def Jww (t:Kk):Prop :=
 (1≤t.Id∧t.Id≤99)∧(1≤t.Length∧t.Length≤50000)∧(1≤t.Speed∧t.Speed≤10000)∧(1≤t.Accel∧t.Accel≤200)∧(1≤t.Service∧t.Service≤200)∧(t.Service≤t.Emergency∧t.Emergency≤200) ∧
  (0≤t.Delay∧t.Delay≤5)∧(0≤t.Const∧t.Const≤500)∧(0≤t.Rate∧t.Rate≤100)
open Classical in
noncomputable def Jlu (t:Kk):Int:=if ¬ Hq t.Name then 3 else if ¬ Jww t then 1 else 0
theorem Jyy {α:Type} {b:Bool} {x y:α}:(bif b then some x else some y)=some (bif b then x else y):=by cases b <;> rfl
theorem Jyq {a lo hi:Int}:a=max lo (min a hi)↔(lo≤a∧a≤hi)∨(hi<lo∧a=lo):=by omega
theorem Jn8 {t:Kk} (h:t.Name.size≤1048576):Ev t=some (Jlu t):=by
 suffices Is (Ev t) fun r=>r=Jlu t by obtain ⟨r,h,rfl⟩:=this; exact h
 unfold Ev Mg;refine (Jgi _ h).bind fun r hr=>Is.ifn hr (fun hn=>Is.val (by unfold Jlu; rw [if_pos hn])) fun hn=>?_;simp only [Wk,Option.bind_some];refine Is.ifn (p:=Jww t) ?_ (fun hc=>Is.val (by unfold Jlu; rw [if_neg (fun q=>q hn),if_pos hc])) (fun hc=>Is.val (by unfold Jlu; rw [if_neg (fun q=>q hn),if_neg (fun q=>q hc)]));simp only [Jes,Bool.and_eq_true,decide_eq_true_eq,and_true,Jyq,Jww,true_and];omega
theorem Jox {t:Kk} (h:t.Name.size≤1048576):Er t=some (Jlu t):=by
 suffices Is (Er t) fun r=>r=Jlu t by obtain ⟨r,h,rfl⟩:=this; exact h
 unfold Er;refine (Jfd _ h).bind fun r hr=>Is.ifn hr (fun hn=>Is.val (by unfold Jlu; rw [if_pos hn])) fun hn=>?_;simp only [Yw,Option.bind_some,Jyy,Bool.cond_true_left];refine ⟨_,rfl, ?_⟩
 by_cases c1:(1≤t.Id∧t.Id≤99)∧(1≤t.Length∧t.Length≤50000)∧(1≤t.Speed∧t.Speed≤10000)∧(1≤t.Accel∧t.Accel≤200)∧(1≤t.Service∧t.Service≤200)
 ·obtain ⟨⟨a1,a2⟩,⟨a3,a4⟩,⟨a5,a6⟩,⟨a7,a8⟩,a9,a10⟩:=c1
  by_cases c2:(t.Service≤t.Emergency∧t.Emergency≤200)∧(0≤t.Delay∧t.Delay≤5)∧(0≤t.Const∧t.Const≤500)∧(0≤t.Rate∧t.Rate≤100)
  ·have hR:Jww t:=⟨⟨a1,a2⟩,⟨a3,a4⟩,⟨a5,a6⟩,⟨a7,a8⟩,⟨a9,a10⟩,c2⟩
   obtain ⟨⟨b1,b2⟩,⟨b3,b4⟩,⟨b5,b6⟩,b7,b8⟩:=c2;unfold Jlu;rw [if_neg (fun q=>q hn),if_neg (fun q=>q hR)];simp [a1,a2,a3,a4,a5,a6,a7,a8,a9,a10,b1,b2,b3,b4,b5,b6,b7,b8]
  ·have hR:¬ Jww t:=fun q=>c2 q.2.2.2.2.2;unfold Jlu;rw [if_neg (fun q=>q hn),if_pos hR];simp only [a1,a2,a3,a4,a5,a6,a7,a8,a9,a10,decide_true,Bool.and_self,Bool.not_true,Bool.or_self,cond_false];rw [cond_eq_ite,if_pos];simp only [Bool.or_eq_true,Bool.not_eq_true',Bool.and_eq_false_iff,decide_eq_false_iff_not];omega
 ·have hR:¬ Jww t:=fun q=>c1 ⟨q.1,q.2.1,q.2.2.1,q.2.2.2.1,q.2.2.2.2.1⟩;unfold Jlu;rw [if_neg (fun q=>q hn),if_pos hR];rw [cond_eq_ite,if_pos];simp only [Bool.or_eq_true,Bool.not_eq_true',Bool.and_eq_false_iff,decide_eq_false_iff_not];omega
theorem Jpn {l:Jd} (h:l.Signals.length≤1048576) (e:Jo):Db l e=some (Jpf l.Signals e):=Oi h e
def Jcc : Jq:=⟨0,0,0,0,[],[],[],[],[],0,0,0,0,0⟩
theorem Jt1 {l:Jd} (hs:Sm l) {t:Kk} (ht:t.Name.size≤1048576) (b:Kh) (hb:b.Steps.length≤1000) :
  ∃ r,Ye l t b=some r∧Hz l t b=some r∧(r.1=Jcc∨r.1.Steps=b.Steps∧r.1.Routes=[]∧r.1.Starts=[]∧r.1.Ends=[]∧r.1.Done=[]):=by
 unfold Ye Hz;rw [Jc8 hs,Jna hs];simp only [Option.bind_some]
 by_cases h1:chk l=0
 ·have hl:=(Jyh l).1 h1;rw [decide_eq_true h1];simp only [Bool.not_true,cond_false];rw [Jn8 ht,Jox ht];simp only [Option.bind_some]
  by_cases h2:Jlu t=0
  ·rw [decide_eq_true h2];simp only [Bool.not_true,cond_false];rw [Jpq hs hl b hb,Joh hs hl b hb];simp only [Option.bind_some]
   by_cases h3:Jru l b=0
   ·rw [decide_eq_true h3];have hB:=(Ka6 l b).1 h3;have hv:=hB.1
    by_cases h4:b.Length=t.Length
    ·have hne:b.Steps≠[]:=hv.ne;have hlen:0<b.Steps.length:=List.length_pos_iff.2 hne;rw [decide_eq_true h4,decide_eq_false (show ¬ ((b.Steps.length:Nat):Int)=0 by omega)];simp only [Bool.not_true,Bool.or_self,cond_false,Option.bind_some];rw [Jn7 hne (by omega)];simp only [Option.bind_some];rw [Oi hs.sg,Jpn hs.sg];simp only [Option.bind_some]
     by_cases h5:Jpf l.Signals ⟨(b.Steps.getLast hne).El,(b.Steps.getLast hne).Out⟩<0
     ·rw [decide_eq_true h5];exact ⟨(Jcc,9),rfl,rfl,.inl rfl⟩
     ·rw [decide_eq_false h5];simp only [cond_false];have hin:Ve l (b.Steps.getLast hne).El=true:=hv.has (List.getLast_mem hne);obtain ⟨x,x1,x2,_⟩:=Jrp hin;have hsum:=hl.sum (way:=b.Steps) (fun s hs=>hv.has hs);have hsd:=hl.sum (way:=b.Steps.dropLast) (fun s hs=>hv.has (List.dropLast_subset _ hs));have hll:=hl.last hv;have hdl:=Jw7 (l:=l) hne;have hdlen:b.Steps.dropLast.length≤b.Steps.length:=by rw [List.length_dropLast]; omega
      have hvl:=hv.2.1;have hBd:1≤b.Head∧b.Head≤Cu l b.Steps:=hB.head;rw [Dn (by omega) (by omega),show ((b.Steps.length:Nat):Int) - 1=((b.Steps.length - 1:Nat):Int) by omega,Jut (by omega),← List.dropLast_eq_take,x1,Jl1 l b.Steps (by omega)];simp only [Option.bind_some];have hone:Ck l [b.Steps.getLast hne]=Cu l b.Steps:=by rw [Jcz hne]; simp [Ck]
      rw [Th l _ (by omega)];simp only [Option.bind_some,Ec];rw [Th l [b.Steps.getLast hne] (by simp),hone];simp only [Option.bind_some,Ql];obtain ⟨M,hM,hM2⟩:=Is.app (L:=([]:List Jh)) (ys:=b.Steps) (by simp only [List.length_nil,Kx,Enc.b]; omega);rw [hM];rw [List.nil_append] at hM2;subst hM2;simp only [Option.bind_some];have hx:x.Length=Cu l b.Steps:=by rw [Jcz hne]; exact x2
      have hvl2:∀ n:Nat,n≤64→(n:Int) * 1000000≤64000000:=fun n hn=>by omega
      have hsb:Ck l b.Steps≤64000000:=by have:=hsum.2; have:=hvl2 _ hvl; omega
      have hsdb:0≤Ck l b.Steps.dropLast:=hsd.1;rw [Dn (n:=Ck l b.Steps) (by omega) (by omega),Dn (n:=Ck l b.Steps.dropLast) (by omega) (by omega),Dn (n:=Cu l b.Steps) (by omega) (by omega),hx];refine ⟨_,rfl, ?_,.inr ⟨rfl,rfl,rfl,rfl,rfl⟩⟩;rw [show Cu l b.Steps - Ck l b.Steps=0 - Ck l b.Steps.dropLast by omega]
    ·rw [decide_eq_false h4];exact ⟨(Jcc,1),rfl,rfl,.inl rfl⟩
   ·rw [decide_eq_false h3];exact ⟨(Jcc,1),rfl,rfl,.inl rfl⟩
  ·rw [decide_eq_false h2];exact ⟨(Jcc,1),rfl,rfl,.inl rfl⟩
 ·rw [decide_eq_false h1];exact ⟨(Jcc,1),rfl,rfl,.inl rfl⟩
end PM
namespace PM
open Go Go.RowKit
theorem Jy3 {α:Type} {eqf:α→α→Bool} (heq:∀ x y,eqf x y=true↔x=y) {L M:List α} (h:L.length≤1048576) {step:Int→Option (Int⊕(Unit⊕Bool))}
  (hs:∀ x3,step x3=bif decide (x3<((L.length:Nat):Int)) then ((ixO L x3).bind fun x6=>(ixO M x3).bind fun x7=>bif (!(eqf x6 x7)) then some (.inr (.inr false)) else some (.inl (w64 (x3+1)))) else some (.inr (.inl ()))) :
  Is (bif (!(decide (((L.length:Nat):Int)=((M.length:Nat):Int)))) then some false else onInl (α:=Unit) (β:=Bool) (Ki step 0) fun _=>some true) fun b=>b=true↔L=M:=by
 refine Is.ifn (p:=L.length=M.length) (by rw [decide_eq_true_iff]; omega) (fun hl=>Is.val (iff_of_false Bool.false_ne_true fun e=>hl (congrArg _ e))) (fun hl=>?_);refine Is.all (L:=L) (fun i x=>M[i]? = some x) () (by omega) (fun i x hx hi _=>?_) (by rw [hs]; simp) (fun hn=>Is.val (iff_of_true rfl ?_))
 ·rw [hs];have hg:M[i]? = some M[i]:=List.getElem?_eq_getElem (by omega);refine Is.inb hi (Is.at hx (Is.at hg ?_));refine Is.ifn (heq _ _) (fun hb=>Is.val (iff_of_false Bool.false_ne_true fun e=>?_)) (fun hb=>Is.val ⟨rfl,by rw [hg,hb]⟩);subst e; rw [hg] at hx; cases hx; exact hb rfl
 ·apply List.ext_getElem?;intro i;cases hx:L[i]? with
  | some x=>exact (hn i x hx).symm
  | none=>exact (List.getElem?_eq_none (by have:=List.getElem?_eq_none_iff.1 hx; omega)).symm
end PM
namespace PM
open Go Go.RowKit
theorem Kdo {κ ν:Type} [Key κ] [Enc ν] (m:List (κ×ν)) (k j:κ) (v:ν):Uo (Dj k v m) j=if j=k then some v else Uo m j:=Jtm k v j m
structure Ka0 (k:Jq):Prop where
 steps:k.Steps.length≤1000
 routes:k.Routes.length≤1000
 starts:k.Starts.length≤1000
 ends:k.Ends.length≤1000
 done:k.Done.length≤1000
structure Jyu (c:Jz):Prop where
 tr:c.Tracks.length≤1000
 se:c.Sessions.length≤1000
 each:∀ k∈c.Tracks,Ka0 k
def Jj9 (T:List Jq) (id:Int):Option Nat:=T.findIdx? fun k=>decide (k.Id=id)
theorem Kdn {c:Jz} (hT:c.Tracks.length≤1000) (id:Int):Jap c id=some (match Jj9 c.Tracks id with|some n=>(n:Int)|none => -1):=by
 have:Is (Jap c id) fun r=>r=(match Jj9 c.Tracks id with|some n=>(n:Int)|none => -1):=by
  unfold Jap;refine Is.all (L:=c.Tracks) (fun _ x=>x.Id≠id) () (by omega) (fun i x hx hi hI=>?_) (by simp [Rt]) (fun hn=>Is.val ?_)
  ·unfold Rt;refine Is.inb hi (Is.at hx (Is.cond (fun hc=>Is.val ?_) fun hc=>Is.val ⟨rfl,of_decide_eq_false hc⟩));have hc:=of_decide_eq_true hc;have:Jj9 c.Tracks id=some i:=by
    unfold Jj9;rw [List.findIdx?_eq_some_iff_getElem];refine ⟨hi, ?_,fun j hj=>?_⟩
    ·rw [List.getElem?_eq_getElem hi] at hx; cases hx;exact decide_eq_true hc
    ·rw [Bool.not_eq_true,decide_eq_false_iff_not];exact hI j _ hj (List.getElem?_eq_getElem (by omega))
   rw [this]
  ·have:Jj9 c.Tracks id=none:=by
    unfold Jj9;rw [List.findIdx?_eq_none_iff];intro x hx;obtain ⟨i,hi⟩:=List.getElem?_of_mem hx;exact decide_eq_false (hn i x hi)
   rw [this]
 obtain ⟨r,h1,rfl⟩:=this;exact h1
theorem Jnh : Ep=some true:=by kernel_rfl
theorem Kdy (x y:Jh):Ja0 x y=true↔x=y:=by cases x; cases y; simp [Ja0]
theorem Kdh (x:Kb):Ov x x=true:=by simp [Ov]
theorem Jo0 {L:List Jh} (h:L.length≤1000):Ce L L=some true:=by
 have:Is (Ce L L) fun r=>r=true↔L=L:=Jy3 Kdy (by omega) fun _=>rfl;obtain ⟨r,h1,h2⟩:=this;rw [h1,h2.2 rfl]
theorem Pf {L:List Int} (h:L.length≤1000):Vx L L=some true:=by
 have:Is (Vx L L) fun r=>r=true↔L=L:=Jy3 (eqf:=fun x y=>decide (x=y)) (fun _ _=>Sq) (by omega) fun _=>rfl;obtain ⟨r,h1,h2⟩:=this;rw [h1,h2.2 rfl]
theorem Jtn {k:Jq} (h:Ka0 k):Mt k k=some true:=by
 unfold Mt;simp only [decide_true,Bool.not_true,Bool.or_false,cond_false,Jo0 h.steps,Pf h.routes,Pf h.starts,Pf h.ends,Pf h.done,Option.bind_some,cond_true]
theorem Jtd {c:Jz} (h:Jyu c):Gs c c=some true:=by
 have:Is (Gs c c) fun b=>b=true:=by
  unfold Gs;simp only [decide_true,Bool.not_true,cond_false,Option.bind_some];have h1:=h.tr;have h2:=h.se;refine Is.all (L:=c.Tracks) (fun _ _=>True) () (by omega) (fun i x hx hi _=>?_) (by simp [Mw]) (fun _=>?_)
  ·unfold Mw;refine Is.inb hi (Is.at hx (Is.at hx ?_));rw [Jtn (h.each x (List.mem_of_getElem? hx))];exact Is.val ⟨rfl,trivial⟩
  ·refine Is.all (L:=c.Sessions) (fun _ _=>True) () (by omega) (fun i x hx hi _=>?_) (by simp [My]) (fun _=>Is.val rfl);unfold My;refine Is.inb hi (Is.at hx (Is.at hx ?_));rw [Kdh];exact Is.val ⟨rfl,trivial⟩
 obtain ⟨b,h1,rfl⟩:=this;exact h1
structure BulkX (x:Dp):Prop where
 rt:x.Table.Routes.length≤1048576
 tr:x.Center.Tracks.length≤1048576
theorem Jvv : Jyu ⟨[],[]⟩:=⟨Nat.zero_le _,Nat.zero_le _,fun k hk=>by cases hk⟩
end PM
namespace PM
open Go Go.RowKit
theorem Jw8 (A B:List Int) (hA:A.length≤1000000) (hB:B.length≤1048576):Is (Gc A B) fun M=>∀ x,x∈M↔x∈A∧x∈B:=by
 unfold Gc Mh;refine Is.bind (φ:=fun M=>∀ x,x∈M↔x∈A∧x∈B) ?_ fun M hM=>Is.val hM;refine Is.onInl (θ:=fun o=>∃ M,o=.inl M∧∀ x,x∈M↔x∈A∧x∈B) ?_ (fun v hv=>by obtain ⟨M,e,h⟩:=hv; cases e; exact Is.val h) (fun b hb=>by obtain ⟨_,e,_⟩:=hb; cases e);refine Is.loop (mk:=fun (i:Nat) (o:List Int)=>((i:Int),o)) A.length (fun i o=>Xl o∧(∀ y,y∈o↔y∈A.take i∧y∈B)∧o.length≤i) [] ⟨List.Pairwise.nil,fun y=>by simp,by simp⟩ ?_ ?_
 ·rintro i o hi ⟨h1,h2,h3⟩;obtain ⟨y,hy⟩:∃ y,A[i]? = some y:=⟨_,List.getElem?_eq_getElem hi⟩
  simp only [Gn];rw [decide_eq_true (by omega),cond_true];refine Is.onInl (θ:=fun q=>∃ M,q=.inl M∧Xl M∧(∀ y,y∈M↔y∈A.take (i+1)∧y∈B)∧M.length≤i+1) (Is.at hy ?_) (fun v hv=>?_) (fun b hb=>by obtain ⟨_,e,_⟩:=hb; cases e)
  ·rw [Jil B y hB,Option.bind_some]
   by_cases hm:y∈B
   ·rw [decide_eq_true hm];refine Is.at hy ?_;refine (Jdc o y h1 (by omega)).bind fun M hM=>Is.val ⟨M,rfl,hM.1,fun z=>?_,by have:=hM.2.2; omega⟩;rw [hM.2.1,h2,Bv hy,List.mem_append,List.mem_singleton];constructor
    ·rintro (⟨a,b⟩|rfl)
     ·exact ⟨.inl a,b⟩
     ·exact ⟨.inr rfl,hm⟩
    ·rintro ⟨a|rfl,b⟩
     ·exact .inl ⟨a,b⟩
     ·exact .inr rfl
   ·rw [decide_eq_false hm];refine Is.val ⟨o,rfl,h1,fun z=>?_,by omega⟩;rw [h2,Bv hy,List.mem_append,List.mem_singleton];constructor
    ·rintro ⟨a,b⟩;exact ⟨.inl a,b⟩
    ·rintro ⟨a|rfl,b⟩
     ·exact ⟨a,b⟩
     ·exact absurd b hm
  ·obtain ⟨M,e,hM⟩:=hv;cases e;exact Is.val ⟨_,by rw [Pv (by omega)],hM⟩
 ·rintro o ⟨h1,h2,h3⟩;simp only [Gn];rw [decide_eq_false (by omega),cond_false];exact Is.val ⟨_,rfl,fun y=>by rw [h2,List.take_length]⟩
theorem Juu {M:List Int} {A B:List Int} (h:∀ x,x∈M↔x∈A∧x∈B):0<((M.length:Nat):Int)↔∃ x,x∈A∧x∈B:=by
 constructor
 ·intro hl;cases M with
  | nil=>simp at hl
  | cons x M=>exact ⟨x,(h x).1 (by simp)⟩
 ·rintro ⟨x,hx⟩;have:=(h x).2 hx;cases M with
  | nil=>cases this
  | cons y M=>simp only [List.length_cons]; omega
def Jrb (l:Jd) (b:Kh):List Int:=Lj l b.Steps
def Jxs (l:Jd) (bodies:List Kh) (n:Nat):Prop:=∃ i k b c x,k<i∧i<n∧bodies[i]? = some b∧bodies[k]? = some c∧x∈Jrb l b∧x∈Jrb l c
theorem Jzj {l:Jd} (hO:OkL l) {bodies:List Kh} (hl:bodies.length≤1000) (hb:∀ b∈bodies,b.Steps.length≤1000):Is (En l bodies) fun r=>r=true↔¬ Jxs l bodies bodies.length:=by
 unfold En;refine Is.all (L:=bodies) (fun i b=>∀ k c,k<i→bodies[k]? = some c→∀ x,x∈Jrb l b→x∉Jrb l c) () (by omega) (fun i b hb1 hi _=>?_) (by simp [Ik]) (fun hn=>Is.val (iff_of_true rfl ?_))
 ·have hbs:=hb b (List.mem_of_getElem? hb1);unfold Ik;refine Is.inb hi ?_;refine Is.onInl (θ:=fun o=>(o=.inl ()∧∀ k c,k<i→bodies[k]? = some c→∀ x,x∈Jrb l b→x∉Jrb l c)∨(o=.inr (.inr (.inr false))∧Jxs l bodies bodies.length)) ?_ (fun v hv=>?_) (fun r hr=>?_)
  ·refine Is.loop (mk:=fun k (_:Unit)=>(k:Int)) i (fun k _=>∀ j c,j<k→bodies[j]? = some c→∀ x,x∈Jrb l b→x∉Jrb l c) () (fun j c hj=>by omega) (fun k _ hk hI=>?_) (fun _ hI=>?_)
   ·have hc:=List.getElem?_eq_getElem (show k<bodies.length by omega);generalize bodies[k]=c at hc;have hcs:=hb c (List.mem_of_getElem? hc);unfold Iw;rw [decide_eq_true (by omega),cond_true];refine Is.at hb1 ?_;refine (Jad hO b hbs).bind fun A hA=>?_;refine Is.at hc ?_;refine (Jad hO c hcs).bind fun B hB=>?_;have lA:A.length≤1000:=by
     have h1:A.Nodup:=hA.1.imp fun q=>by omega
     have h2:=Jfl l b.Steps;have h3:A.length≤(Lj l b.Steps).length:=h1.length_le_of_subset fun x hx=>(hA.2 x).1 hx;omega
    have lB:B.length≤1000:=by
     have h1:B.Nodup:=hB.1.imp fun q=>by omega
     have h2:=Jfl l c.Steps;have h3:B.length≤(Lj l c.Steps).length:=h1.length_le_of_subset fun x hx=>(hB.2 x).1 hx;omega
    refine (Jw8 A B (by omega) (by omega)).bind fun M hM=>?_;refine Is.ite (p:=∃ x,x∈A∧x∈B) (by rw [decide_eq_true_iff]; exact Juu hM) (fun hp=>Is.val ?_) fun hp=>Is.val ⟨(),by rw [Pv (by omega)],fun j d hj hd x hx=>?_⟩
    ·obtain ⟨x,x1,x2⟩:=hp;exact .inr ⟨rfl,i,k,b,c,x,hk,hi,hb1,hc,(hA.2 x).1 x1,(hB.2 x).1 x2⟩
    ·by_cases e:j=k
     ·subst e;rw [hc] at hd; cases hd;exact fun q=>hp ⟨x,(hA.2 x).2 hx,(hB.2 x).2 q⟩
     ·exact hI j d (by omega) hd x hx
   ·unfold Iw;rw [decide_eq_false (by omega),cond_false];exact Is.val (.inl ⟨rfl,hI⟩)
  ·rcases hv with ⟨_,hv⟩|⟨hv,_⟩
   ·exact Is.val ⟨rfl,hv⟩
   ·cases hv
  ·rcases hr with ⟨hr,_⟩|⟨hr,hc⟩
   ·cases hr
   ·cases hr;exact iff_of_false Bool.false_ne_true fun q=>q hc
 ·rintro ⟨i,k,b,c,x,h1,h2,h3,h4,h5,h6⟩;exact hn i b h3 k c h1 h4 x h5 h6
theorem Jz1 {l:Jd} {bodies:List Kh} (hl:bodies.length≤1000) (hb:∀ b∈bodies,b.Steps.length≤1000) :
  Is (Ki (Lo l bodies) (0,([]:List (Int×Bool)))) fun o=>(o=.inl ()∧¬ Jxs l bodies bodies.length)∨(o=.inr (⟨[],[]⟩,10)∧Jxs l bodies bodies.length):=by
 refine Is.loop (mk:=fun i (m:List (Int×Bool))=>((i:Int),m)) bodies.length (fun i m=>(∀ x,(Uo m x).getD false=true↔∃ k c,k<i∧bodies[k]? = some c∧x∈Jrb l c)∧¬ Jxs l bodies i) [] ⟨fun x=>iff_of_false (by simp [Jij]) (by rintro ⟨k,c,hk,_⟩; omega),by rintro ⟨i,k,b,c,x,h1,h2,_⟩; omega⟩ (fun i m hi hI=>?_) (fun m hI=>?_)
 ·obtain ⟨g1,g2⟩:=hI;have hbi:=List.getElem?_eq_getElem hi;generalize bodies[i]=b at hbi;have hbs:=hb b (List.mem_of_getElem? hbi);simp only [Lo];rw [decide_eq_true (by omega),cond_true];refine Is.at hbi ?_;refine (Jj0 b hbs).bind fun A hA=>?_;have lA:A.length≤1000:=by
   have h1:A.Nodup:=hA.1.imp fun q=>by omega
   have h2:=Jfl l b.Steps;have h3:A.length≤(Lj l b.Steps).length:=h1.length_le_of_subset fun x hx=>(hA.2 x).1 hx;omega
  refine Is.onInl (θ:=fun o=>(∃ m',o=.inl m'∧(∀ x,(Uo m' x).getD false=true↔(Uo m x).getD false=true∨x∈A)∧∀ x∈A,¬ (Uo m x).getD false=true)∨(o=.inr (.inr (.inr (⟨[],[]⟩,10)))∧∃ x∈A,(Uo m x).getD false=true)) ?_ (fun v hv=>?_) (fun r hr=>?_)
  ·refine Is.loop (mk:=fun p (s:List (Int×Bool))=>((p:Int),s)) A.length (fun p s=>(∀ x,(Uo s x).getD false=true↔(Uo m x).getD false=true∨x∈A.take p)∧∀ x∈A.take p,¬ (Uo m x).getD false=true) m ⟨fun x=>by simp,fun x hx=>by simp at hx⟩ (fun p s hp hJ=>?_) (fun s hJ=>?_)
   ·obtain ⟨j1,j2⟩:=hJ;have hx:=List.getElem?_eq_getElem hp;generalize A[p]=x at hx;simp only [Xs];rw [decide_eq_true (by omega),cond_true];refine Is.at hx ?_;refine Is.cond (fun hc=>Is.val (.inr ⟨rfl,x,List.mem_of_getElem? hx, ?_⟩)) fun hc=>Is.val ⟨_,by rw [Pv (by omega)],fun y=>?_,fun y hy=>?_⟩
    ·rcases (j1 x).1 hc with q|q
     ·exact q
     ·have:=Jwg hA.1 hx q; omega
    ·rw [Kdo,Bv hx,List.mem_append,List.mem_singleton]
     by_cases e:y=x
     ·rw [if_pos e];exact iff_of_true rfl (.inr (.inr e))
     ·rw [if_neg e,j1];simp [e]
    ·rw [Bv hx,List.mem_append,List.mem_singleton] at hy;rcases hy with hy|rfl
     ·exact j2 y hy
     ·intro q;have:=(j1 y).2 (.inl q);rw [this] at hc; cases hc
   ·simp only [Xs];rw [decide_eq_false (by omega),cond_false];rw [List.take_length] at hJ;exact Is.val (.inl ⟨s,rfl,hJ.1,hJ.2⟩)
  ·rcases hv with ⟨m',e,q1,q2⟩|⟨e,_⟩
   ·cases e;refine Is.val ⟨_,by rw [Pv (by omega)],fun x=>?_, ?_⟩
    ·rw [q1,g1,hA.2];constructor
     ·rintro (⟨k,c,a1,a2,a3⟩|q)
      ·exact ⟨k,c,by omega,a2,a3⟩
      ·exact ⟨i,b,by omega,hbi,q⟩
     ·rintro ⟨k,c,a1,a2,a3⟩
      by_cases e:k=i
      ·subst e; rw [hbi] at a2; cases a2; exact .inr a3
      ·exact .inl ⟨k,c,by omega,a2,a3⟩
    ·rintro ⟨i',k,b',c,x,a1,a2,a3,a4,a5,a6⟩
     by_cases e:i'=i
     ·subst e;rw [hbi] at a3; cases a3;exact q2 x ((hA.2 x).2 a5) ((g1 x).2 ⟨k,c,a1,a4,a6⟩)
     ·exact g2 ⟨i',k,b',c,x,a1,by omega,a3,a4,a5,a6⟩
   ·cases e
  ·rcases hr with ⟨_,e,_⟩|⟨e,x,x1,x2⟩
   ·cases e
   ·cases e;obtain ⟨k,c,a1,a2,a3⟩:=(g1 x).1 x2;exact .inr ⟨rfl,i,k,b,c,x,a1,hi,hbi,a2,(hA.2 x).1 x1,a3⟩
 ·simp only [Lo];rw [decide_eq_false (by omega),cond_false];exact Is.val (.inl ⟨rfl,hI.2⟩)
theorem Kbh (a1:List Kk) (x:Int):Ki (Pi a1) x=Ki (Ft a1) x:=by
 congr 1;funext y;unfold Pi Ft;cases h1:ixO a1 y <;> cases h2:ixO a1 (w64 (y - 1)) <;> rfl
theorem Kbn {a1:List Kk} (h0:1≤a1.length) (h:a1.length≤1000):Is (Ki (Ft a1) 1) fun o=>o=.inl ()∨o=.inr (⟨[],[]⟩,7):=by
 refine Is.loop (mk:=fun k (_:Unit)=>((k+1:Nat):Int)) (a1.length - 1) (fun _ _=>True) () trivial (fun k _ hk _=>?_) (fun _ _=>?_)
 ·unfold Ft;rw [decide_eq_true (by omega),cond_true,show w64 (((k+1:Nat):Int) - 1)=((k:Nat):Int) by rw [Dn (by omega) (by omega)]; omega];refine Is.at (List.getElem?_eq_getElem (show k<a1.length by omega)) ?_;refine Is.at (List.getElem?_eq_getElem (show k+1<a1.length by omega)) ?_;refine Is.cond (fun _=>Is.val (.inr rfl)) fun _=>Is.val ⟨(),by rw [Pv (by omega)],trivial⟩
 ·unfold Ft;rw [decide_eq_false (by omega),cond_false];exact Is.val (.inl rfl)
theorem Jyo {l:Jd} (hs:Sm l) {t:Kk} {b:Kh} {r:Jq×Int} (h:Ye l t b=some r) (h0:r.2=0):OkL l:=by
 refine (Jyh l).1 (Classical.byContradiction fun h1=>?_);have:Ye l t b=some (Jcc,1):=by
  unfold Ye;rw [Jc8 hs];simp only [Option.bind_some];rw [decide_eq_false h1]
  rfl
 rw [this] at h;cases h;cases h0
theorem Kbd {l:Jd} (hs:Sm l) {a1:List Kk} {a2:List Kh} (ht:∀ t∈a1,t.Name.size≤1048576) (hb:∀ b∈a2,b.Steps.length≤1000) (s:Int×List Jq×List Kb) :
  Ki (Pb l a1 a2) s=Ki (Fy l a1 a2) s:=by
 congr 1;funext ⟨x,T,S⟩;simp only [Pb,Fy];cases h1:ixO a1 x with
 | none=>rfl
 | some t =>
  cases h2:ixO a2 x with
  | none=>rfl
  | some b =>
   have hm1:t∈a1:=ixO_mem h1;have hm2:b∈a2:=ixO_mem h2;obtain ⟨r,r1,r2,_⟩:=Jt1 hs (ht t hm1) b (hb b hm2);simp only [Option.bind_some,r1,r2,Hx,Jac]
 where
 ixO_mem {α:Type} {L:List α} {i:Int} {x:α} (h:ixO L i=some x):x∈L:=by
  unfold ixO at h;split at h
  ·exact List.mem_of_getElem? h
  ·cases h
theorem Kao {l:Jd} (hs:Sm l) {a1:List Kk} {a2:List Kh} (h0:1≤a1.length) (h6:a1.length≤6) (h2:a2.length=a1.length) (ht:∀ t∈a1,t.Name.size≤1048576) (hb:∀ b∈a2,b.Steps.length≤1000) :
  Is (Ki (Fy l a1 a2) (0,([]:List Jq),([]:List Kb))) fun o=>(∃ T S,o=.inl (T,S)∧OkL l∧Jyu ⟨T,S⟩)∨∃ e,o=.inr (⟨[],[]⟩,e):=by
 refine Is.loop (mk:=fun k (s:List Jq×List Kb)=>((k:Int),s.1,s.2)) a1.length (fun k s=>(0<k→OkL l)∧s.1.length≤k∧s.2.length≤k∧∀ t∈s.1,Ka0 t) ([],[]) ⟨fun q=>by omega,by simp,by simp,fun t ht=>by cases ht⟩ (fun k s hk hI=>?_) (fun s hI=>?_)
 ·obtain ⟨T,S⟩:=s;obtain ⟨g1,g2,g3,g4⟩:=hI;simp only at g2 g3 g4;have hx:=List.getElem?_eq_getElem hk;generalize a1[k]=t at hx;have hy:=List.getElem?_eq_getElem (show k<a2.length by omega);generalize a2[k]=b at hy;have hbl:=hb b (List.mem_of_getElem? hy);obtain ⟨r,r1,_,r3⟩:=Jt1 hs (ht t (List.mem_of_getElem? hx)) b hbl;simp only [Fy];rw [decide_eq_true (by omega),cond_true];refine Is.at hx (Is.at hy ?_);rw [r1,Option.bind_some];refine Is.ifn Sq (fun hn=>Is.val (.inr ⟨_,rfl⟩)) fun hz=>?_;refine (Is.app (by simp only [List.length_cons,List.length_nil,Kx,Enc.b]; omega)).bind fun M hM=>?_;simp only [Hx,Option.bind_some];refine (Is.app (by simp only [List.length_cons,List.length_nil,Kx,Enc.b]; omega)).bind fun M' hM'=>?_;have hft:Ka0 r.1:=by
   rcases r3 with e|⟨e1,e2,e3,e4,e5⟩
   ·rw [e]; exact ⟨Nat.zero_le _,Nat.zero_le _,Nat.zero_le _,Nat.zero_le _,Nat.zero_le _⟩
   ·exact ⟨by rw [e1]; exact hbl,by rw [e2]; exact Nat.zero_le _,by rw [e3]; exact Nat.zero_le _,by rw [e4]; exact Nat.zero_le _,by rw [e5]; exact Nat.zero_le _⟩
  refine Is.val ⟨(M,M'),by rw [Pv (by omega)],fun _=>Jyo hs r1 hz, ?_, ?_,fun z hz2=>?_⟩
  ·simp only [hM,List.length_append,List.length_singleton]; omega
  ·simp only [hM',List.length_append,List.length_singleton]; omega
  ·simp only [hM,List.mem_append,List.mem_singleton] at hz2;exact hz2.elim (g4 z) fun e=>e▸hft
 ·obtain ⟨T,S⟩:=s;obtain ⟨g1,g2,g3,g4⟩:=hI;simp only at g2 g3 g4;simp only [Fy];rw [decide_eq_false (by omega),cond_false];exact Is.val (.inl ⟨T,S,rfl,g1 (by omega),by show T.length≤1000; omega,by show S.length≤1000; omega,g4⟩)
theorem Kcl {l:Jd} (hs:Sm l) {a1:List Kk} {a2:List Kh} (hl:a1.length≤10) (ht:∀ t∈a1,t.Name.size≤1048576) (hb:∀ b∈a2,b.Steps.length≤1000) :
  Is (Sx l a1 a2) fun r=>Pq l a1 a2=some r∧Jyu r.1:=by
 unfold Sx Pq;refine Is.bind (φ:=fun b=>b=true↔((a1.length=0∨6<a1.length)∨a2.length≠a1.length)) (Is.or (by rw [Bool.or_eq_true,decide_eq_true_iff,decide_eq_true_iff]; omega) fun _=>Is.val (by rw [Bool.not_eq_true',decide_eq_false_iff_not]; omega)) fun b1 hb1=>?_;have hr:((bif (decide (((a1.length:Nat):Int)<1)) then some true else some (decide (6<((a1.length:Nat):Int)))):Option Bool).bind (fun b1=>(bif b1 then some true else some (!(decide (((a2.length:Nat):Int)=((a1.length:Nat):Int)))):Option Bool))=some b1:=by
  have:Is (((bif (decide (((a1.length:Nat):Int)<1)) then some true else some (decide (6<((a1.length:Nat):Int)))):Option Bool).bind (fun b1=>(bif b1 then some true else some (!(decide (((a2.length:Nat):Int)=((a1.length:Nat):Int)))):Option Bool))) fun b=>b=true↔((a1.length=0∨6<a1.length)∨a2.length≠a1.length):=by
   refine Is.bind (φ:=fun b=>b=true↔(a1.length=0∨6<a1.length)) (Is.or (by rw [decide_eq_true_iff]; omega) fun _=>Is.val (by rw [decide_eq_true_iff]; omega)) fun b hb=>?_;exact Is.or hb fun _=>Is.val (by rw [Bool.not_eq_true',decide_eq_false_iff_not]; omega)
  obtain ⟨b,e,h⟩:=this;rw [e];congr 1;rw [Bool.eq_iff_iff,h,hb1]
 rw [← Option.bind_assoc,hr,Option.bind_some];refine Is.cond (fun hc=>?_) fun hc=>?_
 ·rw [hc]; exact Is.val ⟨rfl,Jvv⟩
 have hp:¬ ((a1.length=0∨6<a1.length)∨a2.length≠a1.length):=fun q=>by rw [hb1.2 q] at hc; cases hc
 rw [hc,cond_false,Kbh,Kbd hs ht hb];obtain ⟨o0,e0,h0⟩:=Kbn (a1:=a1) (by omega) (by omega);obtain ⟨o1,e1,h1⟩:=Kao hs (a1:=a1) (a2:=a2) (by omega) (by omega) (by omega) ht hb;rw [e0,e1];rcases h0 with rfl|rfl
 ·rcases h1 with ⟨T,S,rfl,hO,hF⟩|⟨e,rfl⟩
  ·obtain ⟨o2,e2,h2⟩:=Jz1 (l:=l) (bodies:=a2) (by omega) hb;obtain ⟨o3,e3,h3⟩:=Jzj hO (bodies:=a2) (by omega) hb;show Is (onInl (Ki (Lo l a2) (0,([]:List (Int×Bool)))) fun _=>some ((Jz.mk T S),0)) fun r=>(En l a2).bind (fun r44=>bif (!r44) then some ((Jz.mk [] []),10) else some ((Jz.mk T S),0))=some r∧Jyu r.1;rw [e2,e3,Option.bind_some];rcases h2 with ⟨rfl,hn⟩|⟨rfl,hc⟩
   ·rw [h3.2 hn];exact Is.val ⟨rfl,hF⟩
   ·have:o3=false:=by rw [← Bool.not_eq_true,h3]; exact fun q=>q hc
    rw [this];exact ⟨_,rfl,rfl,Jvv⟩
  ·exact ⟨_,rfl,rfl,Jvv⟩
 ·exact ⟨_,rfl,rfl,Jvv⟩
theorem Jud {l:Jd} (hs:Sm l) {a1:List Kk} {a2:List Kh} (h1:a1.length≤1048576) (h2:a2.length≤1048576) (ht:∀ t∈a1,t.Name.size≤1048576):Bt l a1 a2=some true:=by
 have:Is (Bt l a1 a2) fun b=>b=true:=by
  unfold Bt;simp only [Jnh];refine Is.bind (φ:=fun _=>True) ?_ fun r1 _=>?_
  ·unfold Pg;refine Is.bind (φ:=fun _=>True) (Is.cond (fun _=>Is.val trivial) fun _=>Is.val trivial) fun b1 _=>?_;refine Is.bind (φ:=fun _=>True) (Is.cond (fun _=>Is.val trivial) fun _=>Is.val trivial) fun b2 _=>?_;refine Is.bind (φ:=fun _=>True) (Is.cond (fun _=>Is.val trivial) fun _=>Is.val trivial) fun b3 _=>?_;refine Is.bind (φ:=fun _=>True) (Is.cond (fun _=>Is.val trivial) fun _=>Is.val trivial) fun b4 _=>Is.val trivial
  refine Is.bind (φ:=fun b=>b=false→a1.length≤10) (Is.cond (fun _=>Is.val fun q=>by cases q) fun _=>Is.val fun q=>by have:=of_decide_eq_false q; omega) fun b2 hb2=>?_;refine Is.bind (φ:=fun b=>b=false→b2=false∧a2.length≤10) (Is.cond (fun _=>Is.val fun q=>by cases q) fun hc=>Is.val fun q=>⟨hc,by have:=of_decide_eq_false q; omega⟩) fun b3 hb3=>?_;refine Is.cond (fun _=>Is.val rfl) fun hc=>?_;obtain ⟨q2,l2⟩:=hb3 hc;have l1:=hb2 q2;refine Is.all (L:=a2) (fun _ b=>b.Steps.length≤1000) () (by omega) (fun i x hx hi _=>?_) (by simp [Ff]) (fun hn=>?_)
  ·unfold Ff;refine Is.inb hi (Is.at hx ?_);refine Is.cond (fun _=>?_) fun hc=>Is.val ⟨rfl,by have:=of_decide_eq_false hc; omega⟩;rw [Jnh];exact Is.val rfl
  ·have hb:∀ b∈a2,b.Steps.length≤1000:=Uy.1 hn;refine (Kcl hs l1 ht hb).bind fun r hr=>?_;rw [hr.1,Option.bind_some,Jtd hr.2,Option.bind_some,decide_eq_true rfl];exact Is.val rfl
 obtain ⟨b,h1,rfl⟩:=this;exact h1
end PM
