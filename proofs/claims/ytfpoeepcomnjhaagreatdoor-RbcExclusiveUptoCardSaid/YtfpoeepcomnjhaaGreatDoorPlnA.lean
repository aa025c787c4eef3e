/-
 Plain laws, joined: WalkA WalkB WalkC WalkD WalkE WalkG WalkH WalkI WalkJ WalkK LayA LayB LayC LayD LayE BodyB BodyC BodyD ClmA LnkA SrtA SrtB LnkB LnkC AutA AutB AutC AutD AutE AutF OverA RutA RutB OverC FlankA FlankB CompI FlankC RefB FlankE AutG RbcA RbcC RbcD RbcE RbcF.
-/
import Derived.Test.YtfpoeepcomnjhaaGreatDoorPlA
import Derived.Test.YtfpoeepcomnjhaaGreatDoorDen
namespace PM
open Go Go.RowKit
def Tj (a0 a1 a2:Int):Int×Bool :=
 match Qh.find? (fun x=>decide (x.kind_=a0)&&decide (x.in_=a1)&&decide (x.out_=a2)) with
 | some x=>(x.need_,true)
 | none=>(0,false)
def Jmn (a0 a1:Int):List Int :=
 if a0=1/\a1=0 then [1] else if a0=1/\a1=1 then [0] else
 if a0=2/\a1=0 then [1,2] else if a0=2/\a1=1 then [0] else if a0=2/\a1=2 then [0] else
 if a0=3/\a1=0 then [1] else if a0=3/\a1=1 then [0] else if a0=3/\a1=2 then [3] else if a0=3/\a1=3 then [2] else []
def Jba (a0:Int):Int:=if a0=1 then 2 else if a0=2 then 3 else if a0=3 then 4 else 0
theorem kinds (a:Int):a=1\/a=2\/a=3\/(¬ a=1/\¬ a=2/\¬ a=3/\¬ 1=a/\¬ 2=a/\¬ 3=a):=by omega
theorem Jf6 (a:Int):a=0\/a=1\/a=2\/a=3\/(¬ a=0/\¬ a=1/\¬ a=2/\¬ a=3/\¬ 0=a/\¬ 1=a/\¬ 2=a/\¬ 3=a):=by omega
set_option maxRecDepth 10000
theorem Jdk (a0 a1 a2:Int):Na a0 a1 a2=some (Tj a0 a1 a2):=by
 unfold Na Tj;rw [Jb2 (fun x=>decide (x.kind_=a0)&&decide (x.in_=a1)&&decide (x.out_=a2)) (fun x=>.inr (x.need_,true)) (.inl ()) Qh (by decide)]
 ·cases Qh.find? (fun x=>decide (x.kind_=a0)&&decide (x.in_=a1)&&decide (x.out_=a2)) <;> rfl
 ·intro i x h;have hi:i<10:=Ue h;simp only [Ra,Zb h,show decide ((i:Int)<10)=true by simp; omega,cond_true,Option.bind_some]
 ·simp [Ra,Qh]
theorem Su (a0 a1 a2:Int):Co a0 a1 a2=some (Tj a0 a1 a2):=by
 unfold Co Tj;rcases kinds a0 with rfl|rfl|rfl|⟨h1,h2,h3,h4,h5,h6⟩
 ·simp [Qh,Bool.cond_eq_ite];rcases Jf6 a1 with rfl|rfl|rfl|rfl|⟨g0,g1,g2,g3,g4,g5,g6,g7⟩ <;> rcases Jf6 a2 with rfl|rfl|rfl|rfl|⟨e0,e1,e2,e3,e4,e5,e6,e7⟩ <;> simp [*] <;> omega
 ·simp [Qh,Bool.cond_eq_ite];rcases Jf6 a1 with rfl|rfl|rfl|rfl|⟨g0,g1,g2,g3,g4,g5,g6,g7⟩ <;> rcases Jf6 a2 with rfl|rfl|rfl|rfl|⟨e0,e1,e2,e3,e4,e5,e6,e7⟩ <;> simp [*] <;> (repeat' split) <;> first|rfl|omega
 ·simp [Qh,Bool.cond_eq_ite];rcases Jf6 a1 with rfl|rfl|rfl|rfl|⟨g0,g1,g2,g3,g4,g5,g6,g7⟩ <;> rcases Jf6 a2 with rfl|rfl|rfl|rfl|⟨e0,e1,e2,e3,e4,e5,e6,e7⟩ <;> simp [*] <;> omega
 ·simp [Qh, *]
def Kkh (a0 a1:Int) (i:Nat) (_:Unit) (l:List Int):Option (List Int⊕(List Int⊕List Int)) :=
 bif (Tj a0 a1 i).2 then (Uq l [(i:Int)]).map .inl else some (.inl l)
theorem Jie (a0 a1:Int):Ed a0 a1=onInl (Juk (Kkh a0 a1) (fun l=>.inl l) [(),(),(),()] 0 []) some:=by
 unfold Ed;rw [<- Jtm (step:=Gq a0 a1) (fun (i:Nat) (l:List Int)=>((i:Int),l))]
 ·rfl
 ·intro i x l h;have hi:i<4:=Ue h;simp only [Gq,show decide ((i:Int)<4)=true by simp; omega,cond_true,Su,Option.bind_some,Kkh];cases (Tj a0 a1 i).2
  ·simp [onInl,Vs,Vc (n:=(i:Int)+1) (by omega) (by omega)]
  ·cases Uq l [(i:Int)] <;> simp [onInl,Vs,Vc (n:=(i:Int)+1) (by omega) (by omega)]
 ·intro l; simp [Gq]
theorem Jk1 (a0 a1:Int):Ed a0 a1=some (Jmn a0 a1):=by
 rw [Jie];rcases kinds a0 with rfl|rfl|rfl|⟨h1,h2,h3,h4,h5,h6⟩ <;> rcases Jf6 a1 with rfl|rfl|rfl|rfl|⟨g0,g1,g2,g3,g4,g5,g6,g7⟩ <;>
  simp [Juk,Tj,Qh,Kkh,onInl,Vs,Jmn,Uq,Enc.b,Jw, *]
end PM
namespace PM
open Go Go.RowKit
structure Sm (l:Ja):Prop where
 sec:l.Sections.length<=1048576
 el:l.Elements.length<=1048576
 jo:l.Joints.length<=1048576
 sg:l.Signals.length<=1048576
 ba:l.Balises.length<=1048576
 nm:l.Name.size<=1048576
 secn:∀ x∈l.Sections,x.size<=1048576
 eln:∀ x∈l.Elements,x.Name.size<=1048576
 sgn:∀ x∈l.Signals,x.Name.size<=1048576
theorem Ng (x y:Je):Kb x y=true↔x=y:=by
 cases x; cases y; simp [Kb]
def Kw (l:Ja) (e:Je):Je×Bool :=
 match l.Joints.find? fun j=>Kb j.A e||Kb j.B e with
 | some j=>(bif Kb j.A e then j.B else j.A,true)
 | none=>(⟨0,0⟩,false)
theorem Jjd {l:Ja} (h:l.Joints.length<=1048576) (e:Je):Ex l e=some (Kw l e):=by
 unfold Ex Kw;rw [Jb2 (fun j=>Kb j.A e||Kb j.B e) (fun j=>.inr (bif Kb j.A e then j.B else j.A,true)) (.inl ()) l.Joints (by omega)]
 ·cases l.Joints.find? (fun j=>Kb j.A e||Kb j.B e) <;> rfl
 ·intro i x hx;have hi:=Ue hx;simp only [Gg,Zb hx,show decide ((i:Int)<((l.Joints.length:Nat):Int))=true by simp; omega,cond_true,Option.bind_some];cases Kb x.A e <;> cases Kb x.B e <;> rfl
 ·simp [Gg]
theorem Vk {l:Ja} (h:l.Joints.length<=1048576) (e:Je):Wx l e=some (Kw l e):=by
 unfold Wx Kw;rw [Jb2 (fun j=>Kb j.A e||Kb j.B e) (fun j=>.inr (bif Kb j.A e then j.B else j.A,true)) (.inl ()) l.Joints (by omega)]
 ·cases l.Joints.find? (fun j=>Kb j.A e||Kb j.B e) <;> rfl
 ·intro i x hx;have hi:=Ue hx;simp only [Ht,Zb hx,show decide ((i:Int)<((l.Joints.length:Nat):Int))=true by simp; omega,cond_true,Option.bind_some];cases Kb x.A e <;> cases Kb x.B e <;> rfl
 ·simp [Ht]
theorem Jg8 {l:Ja} (h:l.Joints.length<=1048576) (s:Jb):Dh s l=some (Kw l ⟨s.El,s.Out⟩):=by
 simp [Dh,Jjd h]
theorem Px {l:Ja} (h:l.Joints.length<=1048576) (s:Jb):Cn l s=some (Kw l ⟨s.El,s.Out⟩):=by
 simp [Cn,Vk h]
def Vf (l:Ja) (i:Int):Bool:=decide (0<=i)&&decide (i<((l.Elements.length:Nat):Int))
theorem Jdt (l:Ja) (i:Int):Zt l i=some (Vf l i):=by
 unfold Zt Vf;cases decide (0<=i) <;> simp
theorem Lp (l:Ja) (i:Int):Yt l i=some (Vf l i):=by
 unfold Yt Vf;cases decide (0<=i) <;> simp
theorem Yb {l:Ja} {i:Int} (h:Vf l i=true):∃ x,ixO l.Elements i=some x/\l.Elements[i.toNat]? = some x:=by
 simp only [Vf,Bool.and_eq_true,decide_eq_true_eq] at h;obtain ⟨x,h1,h2⟩:=Is.ix (L:=l.Elements) h.1 h.2;exact ⟨x,h1,h2⟩
theorem Jqd (a0 a1:Int):(Jmn a0 a1).length<=2:=by
 unfold Jmn
 (repeat' split) <;> simp
theorem Jfq (a:Je) (L:List Int) (h:L.length<=10):Is (Js (Bm a L) (0,([]:List Jb))) fun o=>o=.inl (L.map fun x=>⟨a.El,a.Side,x⟩):=by
 refine Is.loop (mk:=fun (i:Nat) (m:List Jb)=>((i:Int),m)) L.length (fun i m=>m=(L.take i).map fun x=>⟨a.El,a.Side,x⟩) [] rfl ?_ ?_
 ·rintro i m hi rfl;unfold Bm;refine Is.cond (fun _=>?_) (fun hb=>by simp at hb; omega);refine Is.bind (Is.ixn hi) fun x hx=>?_;refine Is.bind (Is.app ?_) fun M hM=>?_
  ·simp only [List.length_map,List.length_take,List.length_cons,List.length_nil,Jw,Enc.b]; omega
  ·subst hM;refine Is.val ⟨(L.take (i+1)).map fun x=>⟨a.El,a.Side,x⟩, ?_,rfl⟩;rw [Cv (by omega),List.take_add_one,hx];simp
 ·rintro m rfl;unfold Bm;refine Is.cond (fun hb=>by simp at hb) (fun _=>Is.val ?_);simp
def Fw (l:Ja) (a:Je):List Jb :=
 bif Vf l a.El then match l.Elements[a.El.toNat]? with
  | some x=>(Jmn x.Kind a.Side).map fun o=>⟨a.El,a.Side,o⟩
  | none=>[]
 else []
theorem Jap (l:Ja) (a:Je):Zw l a=some (Fw l a):=by
 unfold Zw Fw;rw [Lp];simp only [Option.bind_some];cases h:Vf l a.El with
 | false=>rfl
 | true =>
  obtain ⟨x,h1,h2⟩:=Yb h;obtain ⟨o,h3,rfl⟩:=Jfq a (Jmn x.Kind a.Side) (by have:=Jqd x.Kind a.Side; omega);simp [h1,h2,Jk1,h3,onInl,Vs]
theorem Jpm (l:Ja) (a:Je):(Fw l a).length<=2:=by
 unfold Fw;cases Vf l a.El with
 | false=>simp
 | true =>
  simp only [cond_true];split
  ·rename_i x _;have:=Jqd x.Kind a.Side
   simpa using this
  ·simp
def Jcc (l:Ja) (s:Jb):Int×Bool :=
 bif Vf l s.El then match l.Elements[s.El.toNat]? with
  | some x=>Tj x.Kind s.In s.Out
  | none=>(0,false)
 else (0,false)
theorem Jjj (l:Ja) (s:Jb):Et l s=some (Jcc l s):=by
 unfold Et Jcc;rw [Jdt];simp only [Option.bind_some];cases h:Vf l s.El with
 | false=>rfl
 | true =>
  obtain ⟨x,h1,h2⟩:=Yb h;simp [h1,h2,Jdk]
end PM
namespace PM
open Go Go.RowKit
def lenOf (l:Ja) (s:Jb):Int:=bif Vf l s.El then ((l.Elements[s.El.toNat]?).map (·.Length)).getD 0 else 0
def Wg (l:Ja):List Jb->Int
 | []=>0
 | s::r=>lenOf l s+Wg l r
theorem Gr (l:Ja):∀ a b:List Jb,Wg l (a++b)=Wg l a+Wg l b
 | [],b=>by simp [Wg]
 | s::r,b=>by simp only [List.cons_append,Wg,Gr l r b]; omega
theorem Jli (l:Ja) (way:List Jb) (h:way.length<=1048576):Cs l way=some (w64 (Wg l way)):=by
 unfold Cs;have:Is (Js (En l way) (0,0)) fun o=>o=.inl (w64 (Wg l way)):=by
  refine Is.loop (mk:=fun (i:Nat) (x:Int)=>(x,(i:Int))) way.length (fun i x=>x=w64 (Wg l (way.take i))) 0 rfl ?_ ?_
  ·rintro i x hi rfl;unfold En;refine Is.cond (fun _=>?_) (fun hb=>by simp at hb; omega);refine Is.onInl (θ:=fun o=>o=.inl (w64 (Wg l (way.take (i+1))))) ?_ ?_ ?_
   ·refine Is.bind (Is.ixn hi) fun s hs=>?_;have e:Wg l (way.take (i+1))=Wg l (way.take i)+lenOf l s:=by
     rw [List.take_add_one,hs,Option.toList_some,Gr]; simp [Wg]
    rw [Jdt];refine Is.bind (Is.eq rfl) fun b hb=>?_;refine Is.cond (fun hb'=>?_) (fun hb'=>?_)
    ·subst hb;obtain ⟨x,h1,h2⟩:=Yb hb';refine Is.bind (Is.eq h1) fun y hy=>?_;subst hy;refine Is.val ?_;rw [e,Jzc];simp [lenOf,hb',h2]
    ·subst hb;refine Is.val ?_;rw [e];simp [lenOf,hb']
   ·rintro v hv;cases hv;exact Is.val ⟨_,by rw [Cv (by omega)],rfl⟩
   ·intro b hb; cases hb
  ·rintro x rfl;unfold En;refine Is.cond (fun hb=>by simp at hb) (fun _=>Is.val ?_);rw [List.take_length]
 obtain ⟨o,h1,rfl⟩:=this;simp [h1,onInl,Vs]
def Sw (l:Ja) (way:List Jb) (i:Nat):Prop :=
 ∃ s,way[i]? = some s/\(Jcc l s).2=true/\(∀ k t,k<i->way[k]? = some t->t.El≠s.El)/\(∀ p,0<i->way[i - 1]? = some p->Kw l ⟨p.El,p.Out⟩=(⟨s.El,s.In⟩,true))
def Yv (l:Ja) (way:List Jb):Prop:=1<=way.length/\way.length<=64/\∀ i,i<way.length->Sw l way i
theorem Kei (s:Jb) (L:List Jb) (h:L.length<=1048576):Is (Js (Hb s L) 0) fun o=>match o with
  | .inl _=>∀ t∈L,t.El≠s.El
  | .inr x=>x=.inr (.inr (.inr false))/\∃ t∈L,t.El=s.El:=by
 refine Is.loop (mk:=fun (i:Nat) (_:Unit)=>(i:Int)) L.length (fun i _=>∀ k t,k<i->L[k]? = some t->t.El≠s.El) () (fun k t hk=>by omega) ?_ ?_
 ·rintro i m hi hI;unfold Hb;refine Is.cond (fun _=>?_) (fun hb=>by simp at hb; omega);refine Is.bind (Is.ixn hi) fun t ht=>?_;refine Is.cond (fun hb=>?_) (fun hb=>?_)
  ·exact Is.val ⟨rfl,t,List.mem_of_getElem? ht,by simpa using hb⟩
  ·refine Is.val ⟨(),by rw [Cv (by omega)],fun k u hk hu=>?_⟩
   by_cases e:k=i
   ·subst e; rw [ht] at hu; cases hu; simpa using hb
   ·exact hI k u (by omega) hu
 ·rintro m hI;unfold Hb;refine Is.cond (fun hb=>by simp at hb) (fun _=>Is.val ?_);intro t ht;obtain ⟨k,hk⟩:=List.getElem?_of_mem ht;exact hI k t (List.getElem?_eq_some_iff.1 hk).1 hk
theorem Ja8 (l:Ja) (way:List Jb) (hl:l.Joints.length<=1048576) (h:way.length<=1048576):Is (Cg l way) fun b=>b=true↔Yv l way:=by
 unfold Cg;refine Is.bind (φ:=fun b=>b=true↔(way.length=0\/64<way.length)) ?_ fun b hb=>?_
 ·refine Is.cond (fun hb=>Is.val ?_) (fun hb=>Is.val ?_)
  ·have:((way.length:Nat):Int)=0:=of_decide_eq_true hb;simp only [true_iff]; omega
  ·have:¬ ((way.length:Nat):Int)=0:=of_decide_eq_false hb;rw [decide_eq_true_iff]; omega
 refine Is.cond (fun hb'=>Is.val ?_) (fun hb'=>?_)
 ·have:=hb.1 hb';simp only [Bool.false_eq_true,Yv,false_iff];omega
 ·have hlen:¬ (way.length=0\/64<way.length):=fun e=>by rw [hb.2 e] at hb'; cases hb'
  simp only [Nr];refine Is.bind (Is.eq rfl) fun r hr=>?_;rw [show r=l from hr];refine Is.onInl (θ:=fun o=>match o with|.inl _=>∀ i,i<way.length->Sw l way i|.inr b=>b=false/\∃ i,i<way.length/\¬ Sw l way i) ?_ ?_ ?_
  ·refine Is.loop (mk:=fun (i:Nat) (_:Unit)=>(i:Int)) way.length (fun i _=>∀ j,j<i->Sw l way j) () (fun j hj=>by omega) ?_ ?_
   ·rintro i m hi hI;unfold Og;refine Is.cond (fun _=>?_) (fun hb=>by simp at hb; omega);refine Is.onInl (θ:=fun o=>match o with|.inl _=>Sw l way i|.inr x=>x=.inr (.inr false)/\¬ Sw l way i) ?_ ?_ ?_
    ·refine Is.bind (Is.ixn hi) fun s hs=>?_;rw [Jjj];refine Is.bind (Is.eq rfl) fun r hr=>?_;subst hr;have bad:∀ {q:Prop},(Sw l way i->q)->¬ q->¬ Sw l way i:=fun h1 h2 h3=>h2 (h1 h3);refine Is.cond (fun hb=>Is.val ⟨rfl, ?_⟩) (fun hb=>?_)
     ·rintro ⟨s',h1,h2,_⟩;rw [hs] at h1; cases h1;rw [h2] at hb; cases hb
     ·have hpos:(Jcc l s).2=true:=by simpa using hb
      rw [Kdj (Nat.le_of_lt hi)];refine Is.bind (Is.eq rfl) fun L hL=>?_;subst hL;refine Is.onInl (Kei s (way.take i) (by simp; omega)) ?_ ?_
      ·rintro v hv;have hd:∀ k t,k<i->way[k]? = some t->t.El≠s.El:=fun k t hk ht=>hv t (List.mem_of_getElem? (i:=k) (by rw [List.getElem?_take,if_pos hk]; exact ht));refine Is.cond (fun h0=>Is.val ?_) (fun h0=>?_)
       ·have:i=0:=by
         have:(i:Int)=0:=by simpa using h0
         omega
        exact ⟨s,hs,hpos,hd,fun p hp=>by omega⟩
       ·have hi0:i≠0:=by
         have:¬ (i:Int)=0:=by simpa using h0
         omega
        have e:w64 ((i:Int) - 1)=((i - 1:Nat):Int):=by rw [Vc (by omega) (by omega)]; omega
        rw [e];refine Is.bind (Is.ixn (by omega)) fun p hp=>?_;rw [Jg8 hl];refine Is.bind (Is.eq rfl) fun r hr=>?_;subst hr;refine Is.cond (fun hb=>Is.val ⟨rfl, ?_⟩) (fun hb=>Is.val ⟨s,hs,hpos,hd,fun p' _ hp'=>?_⟩)
        ·rintro ⟨s',h1,_,_,h4⟩;rw [hs] at h1; cases h1;rw [h4 p (by omega) hp] at hb;simp at hb
        ·rw [hp] at hp'; cases hp';simp at hb;obtain ⟨⟨h5,h6⟩,h7⟩:=hb;cases hq:Kw l ⟨p.El,p.Out⟩ with
         | mk e z =>
          cases e;rw [hq] at h5 h6 h7
          simp_all
      ·rintro x ⟨rfl,t,ht,he⟩;refine ⟨rfl, ?_⟩;rintro ⟨s',h1,_,h3,_⟩;rw [hs] at h1; cases h1;obtain ⟨k,hk⟩:=List.getElem?_of_mem ht;rw [List.getElem?_take] at hk;split at hk
       ·rename_i hki; exact h3 k t hki hk he
       ·cases hk
    ·rintro v hv;refine Is.val ⟨(),by rw [Cv (by omega)],fun j hj=>?_⟩
     by_cases e:j=i
     ·subst e; exact hv
     ·exact hI j (by omega)
    ·rintro x ⟨rfl,hv⟩;exact ⟨rfl,i,hi,hv⟩
   ·rintro m hI;unfold Og;refine Is.cond (fun hb=>by simp at hb) (fun _=>Is.val ?_);exact hI
  ·rintro v hv;refine Is.val ?_;simp only [true_iff,Yv];exact ⟨by omega,by omega,hv⟩
  ·rintro b ⟨rfl,i,hi,hn⟩;simp only [Bool.false_eq_true,false_iff,Yv];exact fun e=>hn (e.2.2 i hi)
end PM
namespace PM
open Go Go.RowKit
theorem Xl (a0:Int):Fh a0=some (Jba a0):=by
 unfold Fh Jba;simp [Bool.cond_eq_ite]
 (repeat' split) <;> simp_all
def exS (l:Ja) (e:Je):Bool :=
 Vf l e.El&&decide (0<=e.Side)&&(match l.Elements[e.El.toNat]? with|some x=>decide (e.Side<Jba x.Kind)|none=>false)
theorem Jda (l:Ja) (e:Je):Bl l e=some (exS l e):=by
 unfold Bl exS;have h1:((bif decide (0<=e.El) then (some (decide (e.El<((l.Elements.length:Nat):Int)))) else some false):Option Bool)=some (Vf l e.El):=by
  unfold Vf; cases decide (0<=e.El) <;> simp
 rw [h1];simp only [Option.bind_some];cases h:Vf l e.El with
 | false=>rfl
 | true =>
  obtain ⟨x,h2,h3⟩:=Yb h;cases decide (0<=e.Side) with
  | false=>rfl
  | true=>simp [h2,h3,Xl]
theorem Wa {α:Type} {L:List α} {i:Nat} {x:α} (h:L[i]? = some x):L.take (i+1)=L.take i++[x]:=by rw [List.take_add_one,h]; rfl
theorem Jn6 {l:Ja} (h:Sm l):Is (Lc l) fun r=>r.x0=l.Sections/\r.x1=l.Elements.map (·.Name)/\r.x2=l.Signals.map (·.Name):=by
 unfold Lc;have h1:=h.sec; have h2:=h.el; have h3:=h.sg;refine Is.bind (Is.app (by simp only [List.length_nil,Jw,Enc.b]; omega)) fun x1 hx1=>?_;refine Is.onInl (θ:=fun o=>o=.inl (l.Elements.map (·.Name))) ?_ ?_ (fun b hb=>by cases hb)
 ·refine Is.loop (mk:=fun (i:Nat) (m:List ByteArray)=>((i:Int),m)) l.Elements.length (fun i m=>m=(l.Elements.take i).map (·.Name)) [] rfl ?_ ?_
  ·rintro i m hi rfl;unfold Lu;refine Is.cond (fun _=>?_) (fun hb=>by simp at hb; omega);refine Is.bind (Is.ixn hi) fun x hx=>?_;refine Is.bind (Is.app ?_) fun M hM=>?_
   ·simp only [List.length_map,List.length_take,List.length_cons,List.length_nil,Jw,Enc.b]; omega
   ·subst hM;exact Is.val ⟨_,by rw [Cv (by omega)],by rw [List.take_add_one,hx]; simp⟩
  ·rintro m rfl;unfold Lu;exact Is.cond (fun hb=>by simp at hb) (fun _=>Is.val (by rw [List.take_length]))
 ·rintro v hv;cases hv;refine Is.onInl (θ:=fun o=>o=.inl (l.Signals.map (·.Name))) ?_ ?_ (fun b hb=>by cases hb)
  ·refine Is.loop (mk:=fun (i:Nat) (m:List ByteArray)=>((i:Int),m)) l.Signals.length (fun i m=>m=(l.Signals.take i).map (·.Name)) [] rfl ?_ ?_
   ·rintro i m hi rfl;unfold Lt;refine Is.cond (fun _=>?_) (fun hb=>by simp at hb; omega);refine Is.bind (Is.ixn hi) fun x hx=>?_;refine Is.bind (Is.app ?_) fun M hM=>?_
    ·simp only [List.length_map,List.length_take,List.length_cons,List.length_nil,Jw,Enc.b]; omega
    ·subst hM;exact Is.val ⟨_,by rw [Cv (by omega)],by rw [List.take_add_one,hx]; simp⟩
   ·rintro m rfl;unfold Lt;exact Is.cond (fun hb=>by simp at hb) (fun _=>Is.val (by rw [List.take_length]))
  ·rintro v hv;cases hv;exact Is.val ⟨by rw [hx1,List.nil_append],rfl,rfl⟩
def Oa (L:List Vb):List Je:=L.flatMap fun j=>[j.A,j.B]
theorem Juf (L:List Vb) (j:Vb):Oa (L++[j])=Oa L++[j.A,j.B]:=by simp [Oa]
def Jsl (l:Ja):Prop:=(∀ j∈l.Joints,exS l j.A=true/\exS l j.B=true)/\(Oa l.Joints).Nodup
theorem Jr6 {l:Ja} {e:Je} (h:exS l e=true):Vf l e.El=true:=by
 simp only [exS,Bool.and_eq_true] at h; exact h.1.1
theorem Jtr {l:Ja} (hJ:Jsl l) {e f:Je} (h:Kw l e=(f,true)):exS l f=true:=by
 unfold Kw at h;split at h
 ·rename_i j hj;have hm:=hJ.1 j (List.mem_of_find?_eq_some hj);cases hA:Kb j.A e <;> rw [hA] at h <;> simp at h <;> subst h
  ·exact hm.1
  ·exact hm.2
 ·simp at h
end PM
namespace PM
open Go Go.RowKit
end PM
namespace PM
open Go Go.RowKit
end PM
namespace PM
open Go Go.RowKit
theorem Jdv {α:Type} {p:List α->Prop} (h0:p []) (h1:∀ l x,p l->p (l++[x])) (l:List α):p l:=by
 have key:∀ m:List α,p m.reverse:=by
  intro m;induction m with
  | nil=>exact h0
  | cons x m ih=>rw [List.reverse_cons]; exact h1 _ _ ih
 have:=key l.reverse
 rwa [List.reverse_reverse] at this
section
variable {α:Type} [DecidableEq α]
def Jia (acc:List α) (x:α):List α:=if acc.getLast? = some x then acc else acc++[x]
def ddS (l:List α):List α:=l.foldl Jia []
theorem Jg0 (l:List α) (x:α):ddS (l++[x])=Jia (ddS l) x:=by simp [ddS,List.foldl_append]
theorem Jtv (l:List α):(ddS l).getLast? = l.getLast?:=by
 induction l using Jdv with
 | h0=>rfl
 | h1 l x ih =>
  rw [Jg0,Jia];split
  ·rename_i h; rw [h]; simp
  ·simp
theorem Jq5 (l:List α):(ddS l).length<=l.length:=by
 induction l using Jdv with
 | h0=>simp [ddS]
 | h1 l x ih =>
  rw [Jg0,Jia];split
  ·simp; omega
  ·simp; omega
theorem Jrs (l:List α) (x:α):x∈ddS l↔x∈l:=by
 induction l using Jdv with
 | h0=>simp [ddS]
 | h1 l y ih =>
  rw [Jg0,Jia];split
  ·rename_i h;rw [ih,List.mem_append,List.mem_singleton];constructor
   ·exact .inl
   ·rintro (h1|rfl)
    ·exact h1
    ·rw [Jtv] at h;exact List.mem_of_getLast? h
  ·simp [ih]
theorem Jgt {lt:α->α->Bool} (tr:∀ x y z,lt x y=true->lt y z=true->lt x z=true) (tot:∀ x y,lt y x=false->x=y\/lt x y=true) (l:List α) (h:l.Pairwise fun x y=>lt y x=false):(ddS l).Pairwise fun x y=>lt x y=true:=by
 induction l using Jdv with
 | h0=>simp [ddS]
 | h1 l y ih =>
  rw [List.pairwise_append] at h;obtain ⟨h1,_,h2⟩:=h;have ih':=ih h1;rw [Jg0,Jia];split
  ·exact ih'
  ·rename_i hne;rw [List.pairwise_append];refine ⟨ih',by simp,fun x hx z hz=>?_⟩;simp only [List.mem_singleton] at hz;subst hz
   -- the last element of what is kept
   obtain ⟨m,hm⟩:∃ m,(ddS l).getLast? = some m:=by
    cases hd:ddS l with
    | nil=>rw [hd] at hx; cases hx
    | cons a r=>exact ⟨_,List.getLast?_eq_some_getLast (List.cons_ne_nil _ _)⟩
   have hml:m∈l:=by rw [Jtv] at hm; exact List.mem_of_getLast? hm
   have hmz:lt m z=true:=by
    rcases tot m z (h2 m hml z (by simp)) with e|e
    ·subst e; exact absurd hm hne
    ·exact e
   by_cases hxm:x=m
   ·subst hxm; exact hmz
   ·have hsplit:∃ a,ddS l=a++[m]:=by
     refine ⟨(ddS l).dropLast, ?_⟩;have hne':ddS l≠[]:=fun e=>by rw [e] at hx; cases hx
     have:=List.dropLast_concat_getLast hne';rw [List.getLast?_eq_some_getLast hne'] at hm;cases hm;exact this.symm
    obtain ⟨a,ha⟩:=hsplit;rw [ha] at hx ih';rw [List.pairwise_append] at ih';rcases List.mem_append.1 hx with hx|hx
    ·exact tr x m z (ih'.2.2 x hx m (by simp)) hmz
    ·exact absurd (by simpa using hx) hxm
theorem Rf {lt:α->α->Bool} (ir:∀ x,lt x x=false) (tr:∀ x y z,lt x y=true->lt y z=true->lt x z=true):∀ (a b:List α),a.Pairwise (fun x y=>lt x y=true)->b.Pairwise (fun x y=>lt x y=true)->(∀ x,x∈a↔x∈b)->a=b
 | [],[],_,_,_=>rfl
 | [],y::b,_,_,h=>absurd ((h y).2 (by simp)) (by simp)
 | x::a,[],_,_,h=>absurd ((h x).1 (by simp)) (by simp)
 | x::a,y::b,ha,hb,h=>by
  rw [List.pairwise_cons] at ha hb;have hxy:x=y:=by
   have h1:=(h x).1 (by simp);have h2:=(h y).2 (by simp);rcases List.mem_cons.1 h1 with e|h1
   ·exact e
   ·rcases List.mem_cons.1 h2 with e|h2
    ·exact e.symm
    ·have:=tr _ _ _ (hb.1 x h1) (ha.1 y h2);rw [ir] at this; cases this
  subst hxy;have hnx:∀ {l:List α},(∀ z∈l,lt x z=true)->x∉l:=fun hl hm=>by
   have:=hl x hm;rw [ir] at this; cases this
  rw [Rf ir tr a b ha.2 hb.2 fun z=>?_]
  by_cases hz:z=x
  ·subst hz; exact ⟨fun q=>absurd q (hnx ha.1),fun q=>absurd q (hnx hb.1)⟩
  ·have:=h z
   simpa [hz] using this
end
end PM
namespace PM
open Go Go.RowKit
theorem Jf1 (l:Ja) (s:Jb):Ic l s=some (Jcc l s):=by
 unfold Ic Jcc;rw [Lp];simp only [Option.bind_some];cases h:Vf l s.El with
 | false=>rfl
 | true =>
  obtain ⟨x,h1,h2⟩:=Yb h;simp [h1,h2,Su]
theorem Jl8 (way:List Jb) (h:way.length<=1048576) {i:Nat} {s:Jb} (hs:way[i]? = some s):Is (Js (Eh way i) 0) fun o=>match o with
  | .inl _=>∀ k t,k<i->way[k]? = some t->t.El≠s.El
  | .inr x=>x=.inr (.inr false)/\∃ k t,k<i/\way[k]? = some t/\t.El=s.El:=by
 have hi:=Ue hs;refine Is.loop (mk:=fun (i:Nat) (_:Unit)=>(i:Int)) i (fun j _=>∀ k t,k<j->way[k]? = some t->t.El≠s.El) () (fun k t hk=>by omega) ?_ ?_
 ·rintro j m hj hI;unfold Eh;refine Is.cond (fun _=>?_) (fun hb=>by simp at hb; omega);refine Is.bind (Is.ixn (Nat.lt_trans hj hi)) fun t ht=>Is.bind (Is.ixn hi) fun u hu=>?_;rw [hs] at hu; cases hu;refine Is.cond (fun hb=>?_) (fun hb=>?_)
  ·exact Is.val ⟨rfl,j,t,hj,ht,by simpa using hb⟩
  ·refine Is.val ⟨(),by rw [Cv (by omega)],fun k u hk hu=>?_⟩
   by_cases e:k=j
   ·subst e; rw [ht] at hu; cases hu; simpa using hb
   ·exact hI k u (by omega) hu
 ·rintro m hI;unfold Eh;exact Is.cond (fun hb=>by simp at hb) (fun _=>Is.val hI)
theorem Jec (l:Ja) (way:List Jb) (hl:l.Joints.length<=1048576) (h:way.length<=1048576):Is (Ff l way) fun b=>b=true↔Yv l way:=by
 unfold Ff;refine Is.bind (φ:=fun b=>b=true↔(way.length=0\/64<way.length)) ?_ fun b hb=>?_
 ·refine Is.cond (fun hb=>Is.val ?_) (fun hb=>Is.val ?_)
  ·have:((way.length:Nat):Int)=0:=of_decide_eq_true hb;simp only [true_iff]; omega
  ·have:¬ ((way.length:Nat):Int)=0:=of_decide_eq_false hb;rw [decide_eq_true_iff]; omega
 refine Is.cond (fun hb'=>Is.val ?_) (fun hb'=>?_)
 ·have:=hb.1 hb';simp only [Bool.false_eq_true,Yv,false_iff];omega
 ·have hlen:¬ (way.length=0\/64<way.length):=fun e=>by rw [hb.2 e] at hb'; cases hb'
  refine Is.onInl (θ:=fun o=>match o with|.inl _=>∀ i,i<way.length->Sw l way i|.inr b=>b=false/\∃ i,i<way.length/\¬ Sw l way i) ?_ ?_ ?_
  ·refine Is.loop (mk:=fun (i:Nat) (_:Unit)=>(i:Int)) way.length (fun i _=>∀ j,j<i->Sw l way j) () (fun j hj=>by omega) ?_ ?_
   ·rintro i m hi hI;unfold Lw;refine Is.cond (fun _=>?_) (fun hb=>by simp at hb; omega);refine Is.bind (Is.ixn hi) fun s hs=>?_;rw [Jf1];refine Is.bind (Is.eq rfl) fun r hr=>?_;subst hr;refine Is.cond (fun hb=>Is.val ⟨rfl,i,hi, ?_⟩) (fun hb=>?_)
    ·rintro ⟨s',h1,h2,_⟩;rw [hs] at h1; cases h1;rw [h2] at hb; cases hb
    have hpos:(Jcc l s).2=true:=by simpa using hb
    refine Is.onInl (θ:=fun o=>match o with|.inl _=>(∀ p,0<i->way[i - 1]? = some p->Kw l ⟨p.El,p.Out⟩=(⟨s.El,s.In⟩,true))|.inr x=>x=.inr (.inr false)/\¬ Sw l way i) ?_ ?_ ?_
    ·refine Is.cond (fun h0=>?_) (fun h0=>Is.val fun p hp=>?_)
     ·have hi0:0<i:=by
       have:(0:Int)<i:=of_decide_eq_true h0;omega
      have e:w64 ((i:Int) - 1)=((i - 1:Nat):Int):=by rw [Vc (by omega) (by omega)]; omega
      rw [e];refine Is.bind (Is.ixn (by omega)) fun p hp=>?_;rw [Px hl];refine Is.bind (Is.eq rfl) fun r hr=>?_;subst hr;refine Is.bind (φ:=fun b=>b=true↔((Kw l ⟨p.El,p.Out⟩).2=false\/(Kw l ⟨p.El,p.Out⟩).1.El≠s.El)) ?_ fun b1 hb1=>?_
      ·refine Is.cond (fun hc=>Is.val ?_) (fun hc=>?_)
       ·simp at hc; simp [hc]
       ·simp at hc;refine Is.bind (Is.ixn hi) fun u hu=>Is.val ?_;rw [hs] at hu; cases hu;simp [hc]
      refine Is.bind (φ:=fun b=>b=true↔((Kw l ⟨p.El,p.Out⟩).2=false\/(Kw l ⟨p.El,p.Out⟩).1.El≠s.El\/(Kw l ⟨p.El,p.Out⟩).1.Side≠s.In)) ?_ fun b2 hb2=>?_
      ·refine Is.cond (fun hc=>Is.val ?_) (fun hc=>?_)
       ·rcases hb1.1 hc with e|e <;> simp [e]
       ·have hc':¬ ((Kw l ⟨p.El,p.Out⟩).2=false\/(Kw l ⟨p.El,p.Out⟩).1.El≠s.El):=fun e=>by rw [hb1.2 e] at hc; cases hc
        refine Is.bind (Is.ixn hi) fun u hu=>Is.val ?_;rw [hs] at hu; cases hu;have h1:¬ (Kw l ⟨p.El,p.Out⟩).2=false:=fun e=>hc' (.inl e);have h2:¬ (Kw l ⟨p.El,p.Out⟩).1.El≠s.El:=fun e=>hc' (.inr e);constructor
        ·intro e;exact .inr (.inr (by simpa using e))
        ·rintro (e|e|e)
         ·exact absurd e h1
         ·exact absurd e h2
         ·simpa using e
      refine Is.cond (fun hc=>Is.val ⟨rfl, ?_⟩) (fun hc=>Is.val fun p' _ hp'=>?_)
      ·rintro ⟨s',h1,_,_,h4⟩;rw [hs] at h1; cases h1;have:=h4 p hi0 hp;rcases hb2.1 hc with e|e|e
       ·rw [this] at e; cases e
       ·rw [this] at e; exact e rfl
       ·rw [this] at e; exact e rfl
      ·rw [hp] at hp'; cases hp';have hc':¬ ((Kw l ⟨p.El,p.Out⟩).2=false\/(Kw l ⟨p.El,p.Out⟩).1.El≠s.El\/(Kw l ⟨p.El,p.Out⟩).1.Side≠s.In):=fun e=>by rw [hb2.2 e] at hc; cases hc
       cases hq:Kw l ⟨p.El,p.Out⟩ with
       | mk e z =>
        cases e;rw [hq] at hc'
        simp_all
     ·have:¬ (0:Int)<i:=of_decide_eq_false h0;omega
    ·intro v hv;refine Is.onInl (Jl8 way h hs) ?_ ?_
     ·intro w hw;refine Is.val ⟨(),by rw [Cv (by omega)],fun j hj=>?_⟩
      by_cases e:j=i
      ·subst e; exact ⟨s,hs,hpos,hw,hv⟩
      ·exact hI j (by omega)
     ·rintro x ⟨rfl,k,t,hk,ht,he⟩;refine ⟨rfl,i,hi, ?_⟩;rintro ⟨s',h1,_,h3,_⟩;rw [hs] at h1; cases h1;exact h3 k t hk ht he
    ·rintro x ⟨rfl,hn⟩;exact ⟨rfl,i,hi,hn⟩
   ·rintro m hI;unfold Lw;exact Is.cond (fun hb=>by simp at hb) (fun _=>Is.val hI)
  ·rintro v hv;refine Is.val ?_;simp only [true_iff,Yv];exact ⟨by omega,by omega,hv⟩
  ·rintro b ⟨rfl,i,hi,hn⟩;simp only [Bool.false_eq_true,false_iff,Yv];exact fun e=>hn (e.2.2 i hi)
theorem Jc9 (l:Ja) (way:List Jb) (h:way.length<=1048576):Dl l way=some (w64 (Wg l way)):=by
 unfold Dl;have:Is (Js (Di l way) (0,0)) fun o=>o=.inl (w64 (Wg l way)):=by
  refine Is.loop (mk:=fun (i:Nat) (x:Int)=>(x,(i:Int))) way.length (fun i x=>x=w64 (Wg l (way.take i))) 0 rfl ?_ ?_
  ·rintro i x hi rfl;unfold Di;refine Is.cond (fun _=>?_) (fun hb=>by simp at hb; omega);refine Is.onInl (θ:=fun o=>o=.inl (w64 (Wg l (way.take (i+1))))) ?_ ?_ ?_
   ·refine Is.bind (Is.ixn hi) fun s hs=>?_;have e:Wg l (way.take (i+1))=Wg l (way.take i)+lenOf l s:=by
     rw [Wa hs,Gr]; simp [Wg]
    rw [Lp];refine Is.bind (Is.eq rfl) fun b hb=>?_;refine Is.cond (fun hb'=>?_) (fun hb'=>?_)
    ·subst hb;refine Is.bind (Is.ixn hi) fun s' hs'=>?_;rw [hs] at hs'; cases hs';obtain ⟨x,h1,h2⟩:=Yb hb';refine Is.bind (Is.eq h1) fun y hy=>?_;subst hy;refine Is.val ?_;rw [e,Jzc];simp [lenOf,hb',h2]
    ·subst hb;refine Is.val ?_;rw [e];simp [lenOf,hb']
   ·rintro v hv;cases hv;exact Is.val ⟨_,by rw [Cv (by omega)],rfl⟩
   ·intro b hb; cases hb
  ·rintro x rfl;unfold Di;refine Is.cond (fun hb=>by simp at hb) (fun _=>Is.val ?_);rw [List.take_length]
 obtain ⟨o,h1,rfl⟩:=this;simp [h1,onInl,Vs]
def Jjx (L:List Int):List Int:=L.foldl (fun acc x=>if x∈acc then acc else acc++[x]) []
theorem Jlq (L:List Int) (x:Int):Jjx (L++[x])=if x∈Jjx L then Jjx L else Jjx L++[x]:=by
 unfold Jjx;rw [List.foldl_append]
 rfl
theorem Kbo (L:List Int):(Jjx L).length<=L.length:=by
 induction L using Jdv with
 | h0=>simp [Jjx]
 | h1 l x ih =>
  rw [Jlq];split <;> simp <;> omega
def Jpx (l:Ja) (s:Jb):Option Int:=bif Vf l s.El then (l.Elements[s.El.toNat]?).map (·.Section) else none
def Ja6 (l:Ja) (way:List Jb):List Int:=Jjx (way.filterMap (Jpx l))
theorem Kcm (l:Ja) (way:List Jb) (s:Jb):Ja6 l (way++[s])=match Jpx l s with|some x=>if x∈Ja6 l way then Ja6 l way else Ja6 l way++[x]|none=>Ja6 l way:=by
 unfold Ja6;rw [List.filterMap_append,List.filterMap_cons,List.filterMap_nil];cases Jpx l s with
 | none=>simp
 | some x=>rw [Jlq]
theorem Jnj (l:Ja) (way:List Jb):(Ja6 l way).length<=way.length:=Nat.le_trans (Kbo _) (List.length_filterMap_le _ _)
theorem Jr4 (L:List Int) (x:Int) (h:L.length<=1048576):Rr L x=some (decide (x∈L)):=by
 unfold Rr;rw [Jb2 (fun y=>decide (y=x)) (fun _=>.inr true) (.inl ()) L (by omega)]
 ·cases hf:L.find? (fun y=>decide (y=x)) with
  | none =>
   have:¬ x∈L:=fun hm=>by
    have:=List.find?_eq_none.1 hf x hm;simp at this
   simp [this,onInl,Vs]
  | some y =>
   have h1:=List.find?_some hf;have h2:=List.mem_of_find?_eq_some hf;simp at h1; subst h1;simp [h2,onInl,Vs]
 ·intro i y hy;have hi:=Ue hy;simp only [Pw,Zb hy,show decide ((i:Int)<((L.length:Nat):Int))=true by simp; omega,cond_true,Option.bind_some]
 ·simp [Pw]
theorem Pb (l:Ja) (way:List Jb) (h:way.length<=1000000):Wr l way=some (Ja6 l way):=by
 unfold Wr;have:Is (Js (Bg l way) (0,[])) fun o=>o=.inl (Ja6 l way):=by
  refine Is.loop (mk:=fun (i:Nat) (m:List Int)=>((i:Int),m)) way.length (fun i m=>m=Ja6 l (way.take i)) [] rfl ?_ ?_
  ·rintro i m hi rfl;unfold Bg;refine Is.cond (fun _=>?_) (fun hb=>by simp at hb; omega);have hlen:(Ja6 l (way.take i)).length<=i:=Nat.le_trans (Jnj _ _) (by simp; omega);refine Is.onInl (θ:=fun o=>o=.inl (Ja6 l (way.take (i+1)))) ?_ ?_ (fun b hb=>by cases hb)
   ·refine Is.bind (Is.ixn hi) fun s hs=>?_;rw [Lp,Wa hs,Kcm];refine Is.bind (Is.eq rfl) fun b hb=>?_;cases hE:Vf l s.El with
    | false =>
     subst hb;rw [hE];exact Is.val (by simp [Jpx,hE])
    | true =>
     subst hb;rw [hE];obtain ⟨x,h1,h2⟩:=Yb hE;have hso:Jpx l s=some x.Section:=by simp [Jpx,hE,h2]
     rw [hso];refine Is.bind (φ:=fun b=>b = !decide (x.Section∈Ja6 l (way.take i))) (Is.cond (fun _=>?_) (fun e=>by cases e)) fun b hb=>?_
     ·refine Is.bind (Is.ixn hi) fun s' hs'=>?_;rw [hs] at hs'; cases hs';rw [h1];refine Is.bind (Is.eq rfl) fun y hy=>?_;subst hy;rw [Jr4 _ _ (by omega)];exact Is.val rfl
     ·subst hb
      by_cases hm:x.Section∈Ja6 l (way.take i)
      ·simp only [hm,decide_true,Bool.not_true,cond_false,if_pos];exact Is.val rfl
      ·simp only [hm,decide_false,Bool.not_false,cond_true,if_false];refine Is.bind (Is.ixn hi) fun s' hs'=>?_;rw [hs] at hs'; cases hs';rw [h1];refine Is.bind (Is.eq rfl) fun y hy=>?_;subst hy;refine Is.bind (Is.app ?_) fun M hM=>?_
       ·simp only [List.length_cons,List.length_nil,Jw,Enc.b]; omega
       ·subst hM; exact Is.val rfl
   ·rintro v hv;cases hv;exact Is.val ⟨_,by rw [Cv (by omega)],rfl⟩
  ·rintro m rfl;unfold Bg;exact Is.cond (fun hb=>by simp at hb) (fun _=>Is.val (by rw [List.take_length]))
 obtain ⟨o,h1,rfl⟩:=this;simp [h1,onInl,Vs]
end PM
namespace PM
open Go Go.RowKit
theorem Jft (x y:Jf):Wo x y=true↔x=y:=by
 cases x; cases y; simp [Wo]
instance : DecidableEq Jf:=fun x y=>decidable_of_iff _ (Jft x y)
theorem Jrw (x y:Jf):Wo x y=decide (x=y):=by
 rw [Bool.eq_iff_iff,Jft,decide_eq_true_iff]
theorem Jt1 (o:Nat) {n i:Nat} (h:i<n):Wt o n (i:Int)=some (o+i):=by
 unfold Wt;rw [if_pos (by omega)]; rfl
theorem Jyt {α:Type} {L:List α} {n j:Nat} (h:L.length=n):Vi L n j=L[j]?:=by
 unfold Vi;rw [if_pos h]
def ltS (x y:Jf):Bool:=decide (x.El<y.El\/(x.El=y.El/\x.Pos<y.Pos))
theorem Xy (x y:Jf):ltS x y=decide (x.El<y.El\/(x.El=y.El/\x.Pos<y.Pos)):=rfl
theorem Ki1 (x:Jf):ltS x x=false:=by rw [Xy]; simp
theorem Jrp (x y z:Jf) (h1:ltS x y=true) (h2:ltS y z=true):ltS x z=true:=by
 rw [Xy,decide_eq_true_iff] at *; omega
theorem Jrc (x y:Jf) (h:ltS y x=false):x=y\/ltS x y=true:=by
 rw [Xy] at h ⊢;simp only [decide_eq_false_iff_not,decide_eq_true_eq] at h ⊢;obtain ⟨a,b⟩:=x;obtain ⟨c,d⟩:=y;simp only [Jf.mk.injEq] at h ⊢;omega
def Asc (l:List Jf):Prop:=l.Pairwise fun x y=>ltS x y=true
theorem Asc.one {a b:List Jf} (ha:Asc a) (hb:Asc b) (h:∀ x,x∈a↔x∈b):a=b:=Rf Ki1 Jrp a b ha hb h
def Jz9 (l:Ja) (s:Jb):Option Jf:=bif (Jcc l s).2 && !decide ((Jcc l s).1=0) then some ⟨s.El,(Jcc l s).1⟩ else none
def Jop (l:Ja) (way:List Jb):List Jf:=way.filterMap (Jz9 l)
def Jk0 (l:Ja) (way:List Jb):List Jf:=ddS ((Jop l way).mergeSort fun x y => !ltS y x)
theorem Kbj (l:Ja) (way:List Jb) (s:Jb):Jop l (way++[s])=Jop l way++(Jz9 l s).toList:=by
 unfold Jop;rw [List.filterMap_append,List.filterMap_cons,List.filterMap_nil];cases Jz9 l s <;> rfl
theorem Kfs (l:Ja) (way:List Jb):(Jop l way).length<=way.length:=List.length_filterMap_le _ _
theorem Kf5 (l:Ja) (way:List Jb) (x:Jf):x∈Jk0 l way↔x∈Jop l way:=by
 rw [Jk0,Jrs,(List.mergeSort_perm _ _).mem_iff]
theorem Jmx (l:Ja) (way:List Jb):(Jk0 l way).length<=way.length:=by
 refine Nat.le_trans (Jq5 _) ?_;rw [(List.mergeSort_perm _ _).length_eq];exact Kfs l way
theorem Kdy (l:Ja) (way:List Jb):Asc (Jk0 l way):=by
 refine Jgt Jrp Jrc _ ?_;have:=List.pairwise_mergeSort (le:=fun x y => !ltS y x) (fun a b c h1 h2=>?_) (fun a b=>?_) (Jop l way)
 ·exact this.imp fun h=>by simpa using h
 ·simp only [Xy,Bool.not_eq_true',decide_eq_false_iff_not] at *; omega
 ·cases h:ltS b a with
  | false=>rfl
  | true =>
   have:ltS a b=false:=by rw [Xy,decide_eq_true_iff] at h; rw [Xy,decide_eq_false_iff_not]; omega
   simp [this]
theorem Jky (L:List Jf) (x:Jf) (hL:Asc L) (h:L.length<=1000000):Is (Gy L x) fun M=>Asc M/\(∀ y,y∈M↔y∈L\/y=x)/\M.length<=L.length+1:=by
 unfold Gy;refine Is.onInl (θ:=fun o=>match o with|.inl r=>∃ i:Nat,r.2=(i:Int)/\i<=L.length/\r.1=L.take i/\(∀ y∈L.take i,ltS y x=true)/\(∀ y,L[i]? = some y->ltS y x=false)|.inr _=>False) ?_ ?_ (fun b hb=>hb.elim)
 ·refine Is.loop (mk:=fun (i:Nat) (m:List Jf)=>((i:Int),m)) L.length (fun i m=>m=L.take i/\∀ y∈L.take i,ltS y x=true) [] ⟨rfl,fun y hy=>by simp at hy⟩ ?_ ?_
  ·rintro i m hi ⟨rfl,hI⟩;unfold Hm;obtain ⟨y,hy⟩:∃ y,L[i]? = some y:=⟨_,List.getElem?_eq_getElem hi⟩
   have e0:decide ((i:Int)<((L.length:Nat):Int))=true:=decide_eq_true (by omega);simp only [Zb hy,e0,cond_true,Option.bind_some];refine Is.bind (φ:=fun b=>b=ltS y x) ?_ fun b hb=>?_
   ·rw [Xy]
    by_cases h1:y.El<x.El
    ·simp only [h1,decide_true,cond_true,true_or]; exact Is.val rfl
    ·by_cases h2:y.El=x.El
     ·simp only [h2,Int.lt_irrefl,decide_false,decide_true,cond_true,cond_false,Option.bind_some,false_or,true_and]; exact Is.val rfl
     ·simp only [h1,h2,decide_false,cond_false,Option.bind_some,false_or,false_and]; exact Is.val rfl
   ·subst hb;refine Is.cond (fun hc=>?_) (fun hc=>Is.val ⟨i,rfl,by omega,rfl,hI,fun z hz=>?_⟩)
    ·refine Is.bind (Is.app ?_) fun M hM=>?_
     ·simp only [List.length_take,List.length_cons,List.length_nil,Jw,Enc.b]; omega
     ·subst hM;refine Is.val ⟨_,by rw [Cv (by omega)],by rw [Wa hy],fun z hz=>?_⟩;rw [Wa hy] at hz;rcases List.mem_append.1 hz with hz|hz
      ·exact hI z hz
      ·simp at hz; subst hz; exact hc
    ·rw [hy] at hz; cases hz; exact hc
  ·rintro m ⟨rfl,hI⟩;unfold Hm;have e0:decide (((L.length:Nat):Int)<((L.length:Nat):Int))=false:=decide_eq_false (by omega);simp only [e0,cond_false,Option.bind_some];exact Is.val ⟨L.length,rfl,Nat.le_refl _,rfl,hI,fun y hy=>by simp at hy⟩
 ·rintro ⟨m,k⟩ ⟨i,hk,hi,hm,hI,hn⟩;simp only at hk hm;subst hk hm;refine Is.onInl (θ:=fun o=>∃ M,o=.inl M/\Asc (M++L.drop i)/\(∀ y,y∈M++L.drop i↔y∈L\/y=x)/\M.length<=i+1) ?_ ?_ (fun b hb=>by obtain ⟨M,hM,_⟩:=hb; cases hM)
  ·have hsplit:L.take i++L.drop i=L:=List.take_append_drop i L;have hmem:∀ y,y∈L.take i++L.drop i↔y∈L:=fun y=>by rw [hsplit]
   have hL':=hL;unfold Asc at hL';rw [<- hsplit,List.pairwise_append] at hL';refine Is.bind (φ:=fun b=>b=decide (L[i]? ≠ some x)) ?_ fun b hb=>?_
   ·refine Is.cond (fun hc=>Is.val ?_) (fun hc=>?_)
    ·have:i=L.length:=by have:=of_decide_eq_true hc; omega
     subst this; simp
    ·have:i<L.length:=by have:=of_decide_eq_false hc; omega
     refine Is.bind (Is.ixn this) fun y hy=>Is.val ?_;rw [hy,Jrw]
     by_cases e:y=x <;> simp [e]
   subst hb
   by_cases e:L[i]? = some x
   ·simp only [e,ne_eq,not_true,decide_false,cond_false];refine Is.val ⟨L.take i,rfl,by rw [hsplit]; exact hL,fun y=>?_,by simp; omega⟩;rw [hmem];exact ⟨.inl,fun q=>q.elim id fun q=>by subst q; exact List.mem_of_getElem? e⟩
   ·simp only [e,ne_eq,not_false_eq_true,decide_true,cond_true];refine Is.bind (Is.app ?_) fun M hM=>?_
    ·simp only [List.length_take,List.length_cons,List.length_nil,Jw,Enc.b]; omega
    ·subst hM;refine Is.val ⟨_,rfl, ?_,fun y=>?_,by simp; omega⟩
     ·have hxd:∀ y∈L.drop i,ltS x y=true:=by
       intro y hy;cases hd:L[i]? with
       | none =>
        have:L.length<=i:=by simpa using hd
        rw [List.drop_eq_nil_of_le this] at hy; cases hy
       | some z =>
        have hi':=Ue hd;have ez:L[i]=z:=by rw [List.getElem?_eq_getElem hi'] at hd; exact Option.some.inj hd
        have hxz:ltS x z=true:=by
         rcases Jrc x z (hn z hd) with q|q
         ·exact absurd (q▸hd) e
         ·exact q
        rw [List.drop_eq_getElem_cons hi',ez] at hy;have hp:=hL'.2.1;rw [List.drop_eq_getElem_cons hi',ez,List.pairwise_cons] at hp;rcases List.mem_cons.1 hy with q|q
        ·subst q; exact hxz
        ·exact Jrp x z y hxz (hp.1 y q)
      unfold Asc;rw [List.append_assoc,List.pairwise_append];refine ⟨hL'.1, ?_,fun a ha b hb=>?_⟩
      ·rw [List.singleton_append,List.pairwise_cons];exact ⟨hxd,hL'.2.1⟩
      ·rcases List.mem_append.1 hb with q|q
       ·simp at q; subst q; exact hI a ha
       ·exact hL'.2.2 a ha b q
     ·rw [<- hmem];simp only [List.mem_append,List.mem_singleton];constructor
      ·rintro ((q|q)|q)
       ·exact .inl (.inl q)
       ·exact .inr q
       ·exact .inl (.inr q)
      ·rintro ((q|q)|q)
       ·exact .inl (.inl q)
       ·exact .inr q
       ·exact .inl (.inr q)
  ·rintro M ⟨M',hM',hA,hm,hl⟩;cases hM';rw [Kln hi];refine Is.bind (Is.eq rfl) fun y hy=>?_;subst hy;refine Is.bind (Is.app ?_) fun M' hM'=>?_
   ·simp only [List.length_drop,Jw,Enc.b]; omega
   ·subst hM';refine Is.val ⟨hA,hm, ?_⟩;simp only [List.length_append,List.length_drop]; omega
theorem Jaw (l:Ja) (way:List Jb) (h:way.length<=1000000):Zu l way=some (Jk0 l way):=by
 unfold Zu;have:Is (Js (Bn l way) (0,[])) fun o=>o=.inl (Jk0 l way):=by
  refine Is.loop (mk:=fun (i:Nat) (m:List Jf)=>((i:Int),m)) way.length (fun i m=>Asc m/\(∀ x,x∈m↔x∈Jop l (way.take i))/\m.length<=i) [] ⟨List.Pairwise.nil,fun x=>by simp [Jop],Nat.le_refl _⟩ ?_ ?_
  ·rintro i m hi ⟨hA,hm,hl⟩;unfold Bn;refine Is.cond (fun _=>?_) (fun hb=>by simp at hb; omega);refine Is.onInl (θ:=fun o=>match o with|.inl m=>Asc m/\(∀ x,x∈m↔x∈Jop l (way.take (i+1)))/\m.length<=i+1|.inr _=>False) ?_ ?_ (fun b hb=>hb.elim)
   ·refine Is.bind (Is.ixn hi) fun s hs=>?_;rw [Jf1,Wa hs,Kbj];refine Is.bind (Is.eq rfl) fun p hp=>?_;subst hp;unfold Jz9;cases (Jcc l s).2 && !decide ((Jcc l s).1=0) with
    | false=>exact Is.val ⟨hA,fun x=>by simpa using hm x,by omega⟩
    | true =>
     refine Is.bind (Is.ixn hi) fun s' hs'=>?_;rw [hs] at hs'; cases hs';refine Is.bind (Jky m _ hA (by omega)) fun M hM=>Is.val ⟨hM.1,fun x=>?_,by have:=hM.2.2; omega⟩;rw [hM.2.1,hm]; simp
   ·rintro v hv;exact Is.val ⟨v,by rw [Cv (by omega)],hv⟩
  ·rintro m ⟨hA,hm,-⟩;unfold Bn;refine Is.cond (fun hb=>by simp at hb) (fun _=>Is.val ?_);rw [List.take_length] at hm;rw [Asc.one hA (Kdy l way) fun x=>by rw [hm,Kf5]]
 obtain ⟨o,h1,rfl⟩:=this;simp [h1,onInl,Vs]
end PM
namespace PM
open Go Go.RowKit
theorem Yv.apart {l:Ja} {way:List Jb} (h:Yv l way) {i k:Nat} {s t:Jb} (hs:way[i]? = some s) (ht:way[k]? = some t) (e:s.El=t.El):i=k:=by
 have key:∀ {i k:Nat} {s t:Jb},way[i]? = some s->way[k]? = some t->s.El=t.El->¬ i<k:=by
  intro i k s t hs ht e hik;obtain ⟨t',h1,_,h3,_⟩:=h.2.2 k (Ue ht);rw [ht] at h1; cases h1;exact h3 i s hik hs e
 have h1:=key hs ht e;have h2:=key ht hs e.symm;omega
theorem Jq1 {α:Type} [DecidableEq α]:∀ {a b:List α},a.Nodup->(∀ x∈a,x∈b)->a.length<=b.length
 | [],_,_,_=>Nat.zero_le _
 | x::r,b,ha,h=>by
  rw [List.nodup_cons] at ha;have hx:=h x List.mem_cons_self;have:=Jq1 (b:=b.erase x) ha.2 fun y hy=>(List.mem_erase_of_ne (fun e:y=x=>ha.1 (e▸hy))).2 (h y (List.mem_cons_of_mem _ hy));rw [List.length_erase_of_mem hx] at this;have hp:=List.length_pos_of_mem hx;simp only [List.length_cons]; omega
end PM
namespace PM
open Go Go.RowKit
def okB (i:Nat) (c:Nat):Prop:=(97<=c/\c<=122)\/(((48<=c/\c<=57)\/c=95)/\i≠0)
def Jdc (s:ByteArray):Prop:=1<=s.size/\s.size<=12/\∀ i (h:i<s.size),okB i (s[i]'h).toNat
end PM
namespace PM
open Go Go.RowKit
def Mb (l:Ja):Prop:=1<=l.Elements.length/\l.Elements.length<=32/\1<=l.Sections.length/\l.Sections.length<=24/\l.Signals.length<=20/\l.Balises.length<=24
def Jcd (l:Ja):Prop:=Jdc l.Name/\(∀ s∈l.Sections,Jdc s)/\(∀ s∈l.Elements.map (·.Name),Jdc s)/\(∀ s∈l.Signals.map (·.Name),Jdc s)
def Js6 (l:Ja):Prop:=l.Sections.Nodup/\(l.Elements.map (·.Name)).Nodup/\(l.Signals.map (·.Name)).Nodup
def Jcj (l:Ja) (x:Ju):Prop :=
 (1<=x.Kind/\x.Kind<=3)/\(500<=x.Length/\x.Length<=1000000)/\(-50<=x.Grade/\x.Grade<=50)/\(100<=x.Speed/\x.Speed<=10000)/\(0<=x.Section/\x.Section<(l.Sections.length:Nat)) /\
  (x.Kind=2->100<=x.Slow/\x.Slow<=x.Speed)/\(x.Kind≠2->x.Slow=0)
def Kms (l:Ja):Prop:=∀ s,s<l.Sections.length->∃ x∈l.Elements,x.Section=(s:Nat)
def Jkj (l:Ja):Prop:=(∀ x∈l.Elements,Jcj l x)/\Kms l
def Jdq (l:Ja):Prop:=∀ j∈l.Joints,exS l j.A=true/\exS l j.B=true/\j.A≠j.B
def Juq (l:Ja):Prop:=∀ s∈l.Signals,exS l s.At=true/\0<=s.Overlap/\s.Overlap<=1000000
def Jxu (l:Ja) (i:Int):Int:=bif Vf l i then ((l.Elements[i.toNat]?).map (·.Section)).getD (-1) else -1
def Jt4 (l:Ja):Prop:=∀ s∈l.Signals,(Kw l s.At).2=true/\Jxu l (Kw l s.At).1.El≠Jxu l s.At.El
def Jhu (l:Ja) (i:Int):Int:=((l.Elements[i.toNat]?).map (·.Length)).getD 0
def Jxl (l:Ja):Prop:=∀ b∈l.Balises,1<=b.Id/\b.Id<=1073741824/\Vf l b.El=true/\0<=b.Offset/\b.Offset<=Jhu l b.El
open Classical in
noncomputable def chk (l:Ja):Int :=
 if ¬ Mb l then 2 else if ¬ Jcd l then 3 else if ¬ Js6 l then 8 else if ¬ Jkj l then 1 else if ¬ Jdq l then 1 else if ¬ (Oa l.Joints).Nodup then 8 else
 if ¬ Juq l then 1 else if ¬ (l.Signals.map (·.At)).Nodup then 8 else if ¬ Jt4 l then 14 else if ¬ Jxl l then 1 else if ¬ (l.Balises.map (·.Id)).Nodup then 8 else 0
theorem Fk {b x y:Bool}:(bif b then some x else some y)=some (bif b then x else y):=by cases b <;> rfl
theorem Jyf (a b c:Int):Qe a b c=some (decide (b<=a/\a<=c)):=by simp [Qe]
theorem Jeb (s:ByteArray) (h:s.size<=1048576):Is (Hi s) fun b=>b=true↔Jdc s:=by
 unfold Hi;refine Is.onInl (θ:=fun o=>match o with|.inl _=>∀ k (hk:k<s.size),okB k (s[k]'hk).toNat|.inr b=>b=false/\¬ Jdc s) ?_ (fun _ hv=>Is.val ?_) (fun b hb=>show b=true↔Jdc s from ?_)
 ·refine Is.loop (mk:=fun (i:Nat) (_:Unit)=>(i:Int)) s.size (fun i _=>∀ k (hk:k<s.size),k<i->okB k (s[k]'hk).toNat) () (fun k hk hi=>by omega) ?_ ?_
  ·rintro i m hi hI;unfold Ni;refine Is.inb hi ?_;obtain ⟨c,hc,rfl⟩:=Is.six hi;simp only [hc,Option.bind_some,Fk,Bool.cond_false_right,Bool.cond_true_left];refine Is.ite (p:=¬ okB i (s[i]'hi).toNat) (by simp [okB]; omega) (fun hn=>Is.val ⟨rfl,fun hN=>hn (hN.2.2 i hi)⟩) (fun hn=>Is.val ⟨(),by rw [Cv (by omega)],fun k hk hki=>?_⟩)
   by_cases e:k=i
   ·subst e; exact Classical.not_not.1 hn
   ·exact hI k hk (by omega)
  ·rintro m hI;unfold Ni;exact Is.oub (Is.val fun k hk=>hI k hk hk)
 ·have hv:∀ k (hk:k<s.size),okB k (s[k]'hk).toNat:=hv;simp only [Bool.and_eq_true,decide_eq_true_eq,Jdc];constructor
  ·rintro ⟨h1,h2⟩; exact ⟨by omega,by omega,hv⟩
  ·rintro ⟨h1,h2,_⟩; exact ⟨by omega,by omega⟩
 ·have hb:b=false/\¬ Jdc s:=hb;rw [hb.1];exact ⟨fun e=>absurd e Bool.false_ne_true,fun e=>absurd e hb.2⟩
end PM
namespace PM
open Go Go.RowKit
instance (priority:=1) endDec:DecidableEq Je:=fun x y=>decidable_of_iff _ (Ng x y)
theorem Jqz (l:Ja) (x:Ju) (h:l.Sections.length<=1048576) :
  (Jcj l x↔((((1<=x.Kind/\x.Kind<=3)/\(500<=x.Length/\x.Length<=1000000))/\(-50<=x.Grade/\x.Grade<=50))/\(100<=x.Speed/\x.Speed<=10000))/\(0<=x.Section/\x.Section<=w64 (((l.Sections.length:Nat):Int) - 1)) /\
   ¬ ((x.Kind=2/\¬ (100<=x.Slow/\x.Slow<=x.Speed))\/(x.Kind≠2/\x.Slow≠0))):=by
 rw [Vc (by omega) (by omega)];unfold Jcj
 by_cases h2:x.Kind=2 <;> simp [h2] <;> omega
theorem Kg6 {l:Ja} (h:Sm l):Is (Yp l) fun b=>b=true↔∀ x∈l.Elements,Jcj l x:=by
 unfold Yp;have g1:=h.sec; have g2:=h.el;refine Is.all (L:=l.Elements) (fun _ x=>Jcj l x) () (by omega) (fun i x hx hi _=>?_) ?_ (fun hn=>?_)
 ·unfold Zn;have hm:=List.mem_of_getElem? hx;refine Is.inb hi (Is.at hx ?_);simp only [Jyf,Option.bind_some,Fk,Bool.cond_true_left,Bool.cond_false_right];have e:=Jqz l x g1;refine Is.ite (p:=¬ ((((1<=x.Kind/\x.Kind<=3)/\(500<=x.Length/\x.Length<=1000000))/\(-50<=x.Grade/\x.Grade<=50))/\(100<=x.Speed/\x.Speed<=10000))\/¬ (0<=x.Section/\x.Section<=w64 (((l.Sections.length:Nat):Int) - 1)))
   (by simp only [Bool.or_eq_true,Bool.not_eq_true',decide_eq_false_iff_not]; omega) (fun hb=>Is.val ?_) (fun hb=>?_)
  ·refine iff_of_false Bool.false_ne_true fun q=>?_;have:=e.1 (q x hm); omega
  ·refine Is.ite (p:=(x.Kind=2/\¬ (100<=x.Slow/\x.Slow<=x.Speed))\/(x.Kind≠2/\x.Slow≠0)) (by simp only [Bool.or_eq_true,Bool.and_eq_true,Bool.not_eq_true',decide_eq_false_iff_not,decide_eq_true_eq,ne_eq]) (fun hc=>Is.val ?_) (fun hc=>Is.val ⟨rfl, ?_⟩)
   ·refine iff_of_false Bool.false_ne_true fun q=>?_;exact (e.1 (q x hm)).2.2 hc
   ·exact e.2 ⟨by omega,by omega,hc⟩
 ·simp [Zn]
 ·exact Is.val (iff_of_true rfl (Wp.1 hn))
def Jef (s:Int) (L:List Ju):Nat->List Int
 | 0=>[]
 | n+1=>Jef s L n++(match L[n]? with|some x=>if x.Section=s then [(n:Int)] else []|none=>[])
theorem Jnr (s:Int) (L:List Ju):∀ n,(Jef s L n).length<=n
 | 0=>Nat.le_refl _
 | n+1=>by
  have ih:=Jnr s L n;simp only [Jef,List.length_append];split
  ·split <;> simp <;> omega
  ·simp; omega
theorem Jnt {s:Int} {L:List Ju} {k:Int}:∀ {n},k∈Jef s L n↔∃ i x,i<n/\L[i]? = some x/\x.Section=s/\k=(i:Nat)
 | 0=>by simp [Jef]
 | n+1=>by
  simp only [Jef,List.mem_append,Jnt (n:=n)];constructor
  ·rintro (⟨i,x,h1,h2⟩|h)
   ·exact ⟨i,x,by omega,h2⟩
   ·split at h
    ·rename_i x hx;split at h
     ·rename_i hs;exact ⟨n,x,by omega,hx,hs,by simpa using h⟩
     ·cases h
    ·cases h
  ·rintro ⟨i,x,h1,h2,h3,h4⟩
   by_cases e:i=n
   ·subst e
    right
    rw [h2];simp [h3,h4]
   ·exact .inl ⟨i,x,by omega,h2,h3,h4⟩
theorem Kgp {s:Int} {L:List Ju}:(Jef s L L.length).length=0↔¬ ∃ x∈L,x.Section=s:=by
 rw [List.length_eq_zero_iff,List.eq_nil_iff_forall_not_mem];constructor
 ·rintro h ⟨x,hx,e⟩;obtain ⟨i,hi⟩:=List.getElem?_of_mem hx;exact h i (Jnt.2 ⟨i,x,Ue hi,hi,e,rfl⟩)
 ·rintro h k hk;obtain ⟨i,x,_,h2,h3,_⟩:=Jnt.1 hk;exact h ⟨x,List.mem_of_getElem? h2,h3⟩
def Sg (l:Ja) (s:Int):List Int:=if 0<=s/\s<(l.Sections.length:Nat) then Jef s l.Elements l.Elements.length else []
theorem Jzi {l:Ja} (h:l.Elements.length<=1048576) (s:Int):Bc l s=some (Sg l s):=by
 suffices hs:Is (Bc l s) fun r=>r=Sg l s by
  obtain ⟨r,h1,h2⟩:=hs; rw [h1,h2]
 unfold Bc;simp only [Fk,Option.bind_some,Bool.cond_true_left];refine Is.ite (p:=¬ (0<=s/\s<(l.Sections.length:Nat))) (by simp; omega) (fun hb=>Is.val (by rw [Sg,if_neg hb])) (fun hb=>?_);rw [Sg,if_pos (Classical.not_not.1 hb)];refine Is.fold (L:=l.Elements) (mk:=fun i m=>(i,m)) (fun i m=>m=Jef s l.Elements i) [] (by omega) rfl (fun i x m hx hi hI=>?_) (fun m hI=>?_)
 ·subst hI;unfold Dz;refine Is.inb hi ?_;refine Is.onInl (θ:=fun o=>o=.inl (Jef s l.Elements (i+1))) (Is.at hx (Is.ite Ky (fun hc=>?_) (fun hc=>Is.val ?_))) (fun v hv=>?_) (fun b hb=>by cases hb)
  ·have:=Jnr s l.Elements i;refine Is.bind (Is.app (by simp only [List.length_cons,List.length_nil,Jw,Enc.b]; omega)) fun M hM=>Is.val ?_;rw [hM]; simp [Jef,hx,hc]
  ·simp [Jef,hx,hc]
  ·cases hv; exact Is.val ⟨_,rfl,rfl⟩
 ·subst hI;unfold Dz;exact Is.oub (Is.val (Is.val rfl))
theorem Jij {l:Ja} (h:l.Elements.length<=1048576) (s:Int):Cb l s=some (Sg l s):=by
 suffices hs:Is (Cb l s) fun r=>r=Sg l s by
  obtain ⟨r,h1,h2⟩:=hs; rw [h1,h2]
 unfold Cb;refine Is.fold (L:=l.Elements) (mk:=fun i m=>(i,m)) (fun i m=>m=if 0<=s/\s<(l.Sections.length:Nat) then Jef s l.Elements i else []) [] (by omega) (by simp [Jef]) (fun i x m hx hi hI=>?_) (fun m hI=>?_)
 ·unfold Ge;refine Is.inb hi ?_;refine Is.onInl (θ:=fun o=>o=.inl (if 0<=s/\s<(l.Sections.length:Nat) then Jef s l.Elements (i+1) else [])) (Is.at hx ?_) (fun v hv=>?_) (fun b hb=>by cases hb)
  ·simp only [Fk,Option.bind_some,Bool.cond_false_right];refine Is.ite (p:=x.Section=s/\0<=s/\s<(l.Sections.length:Nat)) (by simp; omega) (fun hc=>?_) (fun hc=>Is.val ?_)
   ·rw [if_pos hc.2] at hI ⊢;have:=Jnr s l.Elements i;refine Is.bind (Is.app (by subst hI; simp only [List.length_cons,List.length_nil,Jw,Enc.b]; omega)) fun M hM=>Is.val ?_;rw [hM,hI]; simp [Jef,hx,hc.1]
   ·subst hI
    by_cases hr:0<=s/\s<(l.Sections.length:Nat)
    ·have:¬ x.Section=s:=fun e=>hc ⟨e,hr⟩;rw [if_pos hr,if_pos hr]; simp [Jef,hx,this]
    ·rw [if_neg hr,if_neg hr]
  ·cases hv; exact Is.val ⟨_,rfl,rfl⟩
 ·unfold Ge;exact Is.oub (Is.val (Is.val hI))
theorem Jru {l:Ja} {s:Nat} (h:s<l.Sections.length):(((Sg l (s:Int)).length:Nat):Int)=0↔¬ ∃ x∈l.Elements,x.Section=(s:Nat):=by
 rw [Sg,if_pos (by omega)];rw [<- Kgp]; omega
theorem Khu (e:Je):Kb e e=true:=(Ng e e).2 rfl
theorem Jvp {e f:Je} (h:e≠f):Kb e f=false:=by
 cases q:Kb e f
 ·rfl
 ·exact absurd ((Ng e f).1 q) h
def Jak (L:List Kl) (e:Je):Int:=match L.findIdx? fun s=>Kb s.At e with|some i=>(i:Nat)|none => -1
theorem Jo7 {L:List Kl} {e:Je} {i:Nat} {x:Kl} (hx:L[i]? = some x) (hi:x.At=e) (hp:∀ j y,j<i->L[j]? = some y->y.At≠e):Jak L e=(i:Nat):=by
 have:L.findIdx? (fun s=>Kb s.At e)=some i:=by
  obtain ⟨h1,h2⟩:=List.getElem?_eq_some_iff.1 hx;rw [List.findIdx?_eq_some_iff_getElem];refine ⟨h1,by rw [h2,hi]; exact Khu e,fun j hj=>?_⟩;rw [Jvp (hp j L[j] hj (List.getElem?_eq_getElem (by omega)))]; simp
 rw [Jak,this]
theorem Jqi {L:List Kl} {e:Je} (h:∀ s∈L,s.At≠e):Jak L e = -1:=by
 have:L.findIdx? (fun s=>Kb s.At e)=none:=by
  rw [List.findIdx?_eq_none_iff];exact fun s hs=>Jvp (h s hs)
 rw [Jak,this]
end PM
namespace PM
open Go Go.RowKit
theorem Jx4 {α:Type} (L:List α) (eqb:α->α->Bool) (heq:∀ x y,eqb x y=true↔x=y) (hL:L.length<=4194304) {s1:Int->Int->Option (Int⊕(Unit⊕(Int⊕(Unit⊕Bool))))} {s0:Int->Option (Int⊕(Unit⊕Bool))}
  (h1:∀ i k,s1 i k=bif decide (k<i) then ((ixO L i).bind fun x=>(ixO L k).bind fun y=>bif eqb x y then some (.inr (.inr (.inr (.inr true)))) else some (.inl (w64 (k+1)))) else some (.inr (.inl ())))
  (h0:∀ i,s0 i=bif decide (i<((L.length:Nat):Int)) then onInl (Js (s1 i) 0) (fun _=>some (.inl (w64 (i+1)))) else some (.inr (.inl ()))) :
  Is (onInl (Js s0 0) fun _=>some false) fun b=>b=true↔¬ L.Nodup:=by
 refine Is.all (L:=L) (fun i x=>∀ j y,j<i->L[j]? = some y->y≠x) () (by omega) (fun i x hx hi _=>?_) ?_ (fun h=>Is.val ?_)
 ·rw [h0];refine Is.inb hi ?_;have hlen:(L.take i).length=i:=by rw [List.length_take]; omega
  refine Is.all (L:=L.take i) (fun _ y=>y≠x) () (by omega) (fun k y hy hk _=>?_) ?_ (fun hn=>Is.val ⟨rfl,fun j y hj hy=>?_⟩)
  ·rw [h1];rw [hlen] at hk;rw [List.getElem?_take,if_pos hk] at hy;refine Is.inb hk (Is.at hx (Is.at hy (Is.ite (heq x y) (fun hc=>Is.val ?_) (fun hc=>Is.val ⟨rfl,fun e=>hc e.symm⟩))));refine iff_of_true rfl fun hn=>?_;obtain ⟨g1,g2⟩:=List.getElem?_eq_some_iff.1 hx;obtain ⟨g3,g4⟩:=List.getElem?_eq_some_iff.1 hy;exact List.pairwise_iff_getElem.1 hn k i g3 g1 hk (by rw [g2,g4,hc])
  ·rw [h1,hlen]; simp
  ·exact hn j y (by rw [List.getElem?_take,if_pos hj]; exact hy)
 ·rw [h0]; simp
 ·refine iff_of_false Bool.false_ne_true (fun q=>q ?_);rw [List.Nodup,List.pairwise_iff_getElem];intro i j hi hj hij;exact h j L[j] (List.getElem?_eq_getElem hj) i L[i] hij (List.getElem?_eq_getElem hi)
theorem Sz (L:List ByteArray) (h:L.length<=4194304):Is (Fe L) fun b=>b=true↔¬ L.Nodup :=
 Jx4 L (fun x y=>decide (x=y)) (fun _ _=>Ky) h (fun _ _=>rfl) (fun _=>rfl)
theorem Jdx (L:List Je) (h:L.length<=4194304):Is (Ny L) fun b=>b=true↔¬ L.Nodup :=
 Jx4 L Kb Ng h (fun _ _=>rfl) (fun _=>rfl)
theorem Jg3 (L:List Int) (h:L.length<=4194304):Is (Lm L) fun b=>b=true↔¬ L.Nodup :=
 Jx4 L (fun x y=>decide (x=y)) (fun _ _=>Ky) h (fun _ _=>rfl) (fun _=>rfl)
theorem Jkr {l:Ja} (h:Sm l):Is (Le l) fun e=>(¬ Mb l/\e=2)\/(Mb l/\¬ Jcd l/\e=3)\/(Mb l/\Jcd l/\¬ Js6 l/\e=8)\/(Mb l/\Jcd l/\Js6 l/\e=0):=by
 unfold Le;have h1:=h.sec; have h2:=h.el; have h3:=h.sg;simp only [Option.bind_some,Fk,Bool.cond_true_left];refine Is.ite (p:=¬ Mb l) (by simp [Mb]; omega) (fun hc=>Is.val (.inl ⟨hc,rfl⟩)) (fun hc=>?_);have hc:Mb l:=Classical.not_not.1 hc;refine Is.bind (Jn6 h) fun r hr=>?_;obtain ⟨e0,e1,e2⟩:=hr;rw [e0,e1,e2];refine Is.bind (Is.app (by simp only [List.length_cons,List.length_nil,Jw,Enc.b]; omega)) fun x7 hx7=>?_;subst hx7;refine Is.bind (Is.app (by simp only [List.length_append,List.length_map,List.length_cons,List.length_nil,Jw,Enc.b]; omega)) fun x8 hx8=>?_;subst hx8;refine Is.bind (Is.app (by simp only [List.length_append,List.length_map,List.length_cons,List.length_nil,Jw,Enc.b]; omega)) fun x9 hx9=>?_;have hsz:∀ s∈x9,s.size<=1048576:=by
  subst hx9;intro s hs;simp only [List.mem_append,List.mem_cons,List.not_mem_nil,or_false,List.mem_map] at hs;rcases hs with ((rfl|hs)|⟨x,hx,rfl⟩)|⟨x,hx,rfl⟩
  ·exact h.nm
  ·exact h.secn s hs
  ·exact h.eln x hx
  ·exact h.sgn x hx
 have hlen:x9.length<=4194304:=by
  subst hx9;simp only [List.length_append,List.length_map,List.length_cons,List.length_nil]; omega
 have hN:(∀ s∈x9,Jdc s)↔Jcd l:=by
  subst hx9;simp only [Jcd,List.mem_append,List.mem_cons,List.not_mem_nil,or_false];exact ⟨fun q=>⟨q _ (.inl (.inl (.inl rfl))),fun s hs=>q s (.inl (.inl (.inr hs))),fun s hs=>q s (.inl (.inr hs)),fun s hs=>q s (.inr hs)⟩,
   fun ⟨q1,q2,q3,q4⟩ s hs=>hs.elim (fun hs=>hs.elim (fun hs=>hs.elim (fun e=>e▸q1) (q2 s)) (q3 s)) (q4 s)⟩
 clear hx9;refine Is.all (L:=x9) (fun _ s=>Jdc s) () (by omega) (fun i x hx hi _=>?_) ?_ (fun hn=>?_)
 ·unfold Lx;refine Is.inb hi (Is.at hx (Is.bind (Jeb x (hsz x (List.mem_of_getElem? hx))) fun r hr=>?_));exact Is.ifn hr (fun hn=>Is.val (.inr (.inl ⟨hc,fun e=>hn (hN.2 e x (List.mem_of_getElem? hx)),rfl⟩))) (fun hy=>Is.val ⟨rfl,hy⟩)
 ·simp [Lx]
 have hn:Jcd l:=hN.1 (Wp.1 hn);refine Is.bind (Sz _ (by omega)) fun r hr=>?_;refine Is.bind (Is.or hr fun _=>Is.bind (Sz _ (by simp only [List.length_map]; omega)) fun b hb=>Is.val hb) fun b hb=>?_;refine Is.bind (Is.or hb fun _=>Is.bind (Sz _ (by simp only [List.length_map]; omega)) fun b hb=>Is.val hb) fun b2 hb2=>?_;refine Is.ite hb2 (fun hd=>Is.val (.inr (.inr (.inl ⟨hc,hn,fun q=>?_,rfl⟩)))) (fun hd=>Is.val (.inr (.inr (.inr ⟨hc,hn, ?_,rfl⟩))))
 ·rcases hd with (hd|hd)|hd
  ·exact hd q.1
  ·exact hd q.2.1
  ·exact hd q.2.2
 ·exact ⟨Classical.not_not.1 fun q=>hd (.inl (.inl q)),Classical.not_not.1 fun q=>hd (.inl (.inr q)),Classical.not_not.1 fun q=>hd (.inr q)⟩
theorem Jku (l:Ja) (x:Ju):Is (Lh l x) fun b=>b=true↔Jcj l x:=by
 unfold Lh;simp only [Option.bind_some,Fk,Bool.cond_true_left];refine Is.val ?_;unfold Jcj
 by_cases h2:x.Kind=2
 ·simp [h2,Bool.cond_eq_ite]; omega
 ·simp [h2,Bool.cond_eq_ite]; omega
theorem Jf7 : ∀ L:List Vb,(Oa L).length=2 * L.length
 | []=>rfl
 | j::L=>by
  have:=Jf7 L;simp only [Oa,List.flatMap_cons,List.length_append,List.length_cons,List.length_nil] at this ⊢;omega
theorem Jgr {l:Ja} (h:Sm l):Is (Bb l) fun e=>(¬ Jkj l/\e=1)\/(Jkj l/\¬ Jdq l/\e=1)\/(Jkj l/\Jdq l/\¬ (Oa l.Joints).Nodup/\e=8)\/(Jkj l/\Jdq l/\(Oa l.Joints).Nodup/\e=0):=by
 unfold Bb;have h1:=h.sec; have h2:=h.el; have h3:=h.jo;refine Is.all (L:=l.Elements) (fun _ x=>Jcj l x) () (by omega) (fun i x hx hi _=>?_) ?_ (fun ha=>?_)
 ·unfold Dw;refine Is.inb hi (Is.at hx (Is.bind (Jku l x) fun r hr=>?_));exact Is.ifn hr (fun hn=>Is.val (.inl ⟨fun q=>hn (q.1 x (List.mem_of_getElem? hx)),rfl⟩)) (fun hy=>Is.val ⟨rfl,hy⟩)
 ·simp [Dw]
 refine Is.all (L:=l.Sections) (fun i _=>∃ x∈l.Elements,x.Section=(i:Nat)) () (by omega) (fun i x hx hi _=>?_) ?_ (fun hn=>?_)
 ·unfold Eg;refine Is.inb hi (Is.to (Jij h.el _) ?_);exact Is.ite (Ky.trans (Jru hi)) (fun hb=>Is.val (.inl ⟨fun q=>hb (q.2 i hi),rfl⟩)) (fun hb=>Is.val ⟨rfl,Classical.not_not.1 hb⟩)
 ·simp [Eg]
 have hE:Jkj l:=⟨Wp.1 ha,fun s hs=>hn s l.Sections[s] (List.getElem?_eq_getElem hs)⟩
 refine Is.fold (L:=l.Joints) (mk:=fun i m=>(i,m)) (fun i m=>m=Oa (l.Joints.take i)/\∀ j x,j<i->l.Joints[j]? = some x->exS l x.A=true/\exS l x.B=true/\x.A≠x.B) [] (by omega) ⟨rfl,fun j x hj=>by omega⟩ (fun i x m hx hi hI=>?_) (fun m hI=>?_)
 ·unfold Ec;refine Is.inb hi (Is.at hx ?_);simp only [Jda,Option.bind_some,Fk,Bool.cond_true_left];refine Is.ite (p:=¬ (exS l x.A=true/\exS l x.B=true/\x.A≠x.B)) (by simp only [Bool.or_eq_true,Bool.not_eq_true',Ng]; cases exS l x.A <;> cases exS l x.B <;> simp) (fun hb=>Is.val (.inr (.inl ⟨hE,fun q=>hb (q x (List.mem_of_getElem? hx)),rfl⟩))) (fun hb=>?_);have hlen:m.length<=2 * i:=by
   rw [hI.1,Jf7,List.length_take]; omega
  refine Is.bind (Is.app (by simp only [List.length_cons,List.length_nil,Jw,Enc.b]; omega)) fun M hM=>?_;subst hM;refine Is.val ⟨_,rfl,by rw [hI.1,Zj hx,Juf],fun j y hj hy=>?_⟩
  by_cases e:j=i
  ·subst e; rw [hx] at hy; cases hy; exact Classical.not_not.1 hb
  ·exact hI.2 j y (by omega) hy
 unfold Ec;refine Is.oub (Is.val ?_);obtain ⟨hm,hJ⟩:=hI;rw [List.take_length] at hm;have hJ:Jdq l:=Wp.1 fun i x hx=>hJ i x (Ue hx) hx;subst hm;have hlen:(Oa l.Joints).length<=4194304:=by
  rw [Jf7]; omega
 refine Is.bind (Jdx _ hlen) fun r hr=>?_;exact Is.ite hr (fun hd=>Is.val (.inr (.inr (.inl ⟨hE,hJ,hd,rfl⟩)))) (fun hd=>Is.val (.inr (.inr (.inr ⟨hE,hJ,Classical.not_not.1 hd,rfl⟩))))
theorem Jhs {l:Ja} (h:Sm l) (hJ:Jdq l) (hn:(Oa l.Joints).Nodup):Is (Bz l) fun e =>
  (¬ Juq l/\e=1)\/(Juq l/\¬ (l.Signals.map (·.At)).Nodup/\e=8)\/(Juq l/\(l.Signals.map (·.At)).Nodup/\¬ Jt4 l/\e=14)\/(Juq l/\(l.Signals.map (·.At)).Nodup/\Jt4 l/\e=0):=by
 unfold Bz;have g3:=h.sg; have g4:=h.jo;refine Is.fold (L:=l.Signals) (mk:=fun i m=>(i,m)) (fun i m=>m=(l.Signals.take i).map (·.At)/\∀ j s,j<i->l.Signals[j]? = some s->exS l s.At=true/\0<=s.Overlap/\s.Overlap<=1000000) [] (by omega) ⟨rfl,fun j x hj=>by omega⟩ (fun i x m hx hi hI=>?_) (fun m hI=>?_)
 ·unfold Gj;refine Is.inb hi (Is.at hx ?_);simp only [Jda,Option.bind_some];refine Is.ite (p:=¬ (exS l x.At=true/\0<=x.Overlap/\x.Overlap<=1000000)) (by cases exS l x.At <;> simp <;> omega) (fun hb=>Is.val (.inl ⟨fun q=>hb (q x (List.mem_of_getElem? hx)),rfl⟩)) (fun hb=>?_);refine Is.bind (Is.app (by rw [hI.1]; simp only [List.length_map,List.length_take,List.length_cons,List.length_nil,Jw,Enc.b]; omega)) fun M hM=>?_;subst hM;refine Is.val ⟨_,rfl,by rw [hI.1,Zj hx]; simp,fun j y hj hy=>?_⟩
  by_cases e:j=i
  ·subst e; rw [hx] at hy; cases hy; exact Classical.not_not.1 hb
  ·exact hI.2 j y (by omega) hy
 unfold Gj;refine Is.oub (Is.val ?_);obtain ⟨hm,h1⟩:=hI;rw [List.take_length] at hm;have h1:Juq l:=Wp.1 fun i x hx=>h1 i x (Ue hx) hx;subst hm;refine Is.bind (Jdx _ (by simp only [List.length_map]; omega)) fun r hr=>?_;refine Is.ite hr (fun hd=>Is.val (.inr (.inl ⟨h1,hd,rfl⟩))) (fun hd=>?_);have h2:=Classical.not_not.1 hd;have hJO:Jsl l:=⟨fun j hj=>⟨(hJ j hj).1,(hJ j hj).2.1⟩,hn⟩
 refine Is.all (L:=l.Signals.map (·.At)) (fun _ e=>(Kw l e).2=true/\Jxu l (Kw l e).1.El≠Jxu l e.El) () (by simp only [List.length_map]; omega) (fun i e hx hi _=>?_) ?_ (fun h3=>?_)
 ·unfold Fx;refine Is.inb hi (Is.at hx (Is.to (Vk g4 e) ?_));obtain ⟨s,hs,rfl⟩:=List.mem_map.1 (List.mem_of_getElem? hx);refine Is.bind (Is.or (p:=¬ (Kw l s.At).2=true) (q:=Jxu l (Kw l s.At).1.El=Jxu l s.At.El) (Jmd Iff.rfl) fun hp=>?_) fun b hb=>?_
  ·have hc2:=Classical.not_not.1 hp;have hf:exS l (Kw l s.At).1=true:=Jtr hJO (e:=s.At) (by rw [<- hc2]);have e1:=Jr6 hf;have e2:=Jr6 (h1 s hs).1;obtain ⟨x,hx,hx2⟩:=Yb e1;obtain ⟨y,hy,hy2⟩:=Yb e2;rw [hx,hy];refine Is.val ?_;simp [Jxu,e1,e2,hx2,hy2]
  ·refine Is.ite hb (fun hc=>Is.val (.inr (.inr (.inl ⟨h1,h2,fun q=>?_,rfl⟩)))) (fun hc=>Is.val ⟨rfl,Classical.not_not.1 fun q=>hc (.inl q),fun q=>hc (.inr q)⟩);rcases hc with hc|hc
   ·exact hc (q s hs).1
   ·exact (q s hs).2 hc
 ·simp [Fx]
 ·refine Is.val (.inr (.inr (.inr ⟨h1,h2,fun s hs=>?_,rfl⟩)));exact Wp.1 h3 s.At (List.mem_map.2 ⟨s,hs,rfl⟩)
theorem Jhp {l:Ja} (h:Sm l):Is (Bx l) fun e=>(¬ Jxl l/\e=1)\/(Jxl l/\¬ (l.Balises.map (·.Id)).Nodup/\e=8)\/(Jxl l/\(l.Balises.map (·.Id)).Nodup/\e=0):=by
 unfold Bx;have g3:=h.ba;refine Is.fold (L:=l.Balises) (mk:=fun i m=>(i,m)) (fun i m=>m=(l.Balises.take i).map (·.Id)/\∀ j b,j<i->l.Balises[j]? = some b->1<=b.Id/\b.Id<=1073741824/\Vf l b.El=true/\0<=b.Offset/\b.Offset<=Jhu l b.El) [] (by omega) ⟨rfl,fun j x hj=>by omega⟩ (fun i x m hx hi hI=>?_) (fun m hI=>?_)
 ·unfold Ga;refine Is.inb hi (Is.at hx ?_);simp only [Option.bind_some,Fk,Bool.cond_true_left];refine Is.bind (Is.or (p:=¬ (1<=x.Id/\x.Id<=1073741824/\Vf l x.El=true/\0<=x.Offset)) (q:=¬ x.Offset<=Jhu l x.El) (by simp [Vf]; omega) fun hp=>?_) fun b hb=>?_
  ·have hp:=Classical.not_not.1 hp;obtain ⟨y,h2,h3⟩:=Yb hp.2.2.1;rw [h2];exact Is.val (by simp [Jhu,h3])
  ·refine Is.ite hb (fun hc=>Is.val (.inl ⟨fun q=>?_,rfl⟩)) (fun hc=>?_)
   ·have q1:=q x (List.mem_of_getElem? hx);rcases hc with hc|hc
    ·exact hc ⟨q1.1,q1.2.1,q1.2.2.1,q1.2.2.2.1⟩
    ·exact hc q1.2.2.2.2
   ·refine Is.bind (Is.app (by rw [hI.1]; simp only [List.length_map,List.length_take,List.length_cons,List.length_nil,Jw,Enc.b]; omega)) fun M hM=>?_;subst hM;refine Is.val ⟨_,rfl,by rw [hI.1,Zj hx]; simp,fun j y hj hy=>?_⟩
    by_cases e:j=i
    ·subst e; rw [hx] at hy; cases hy;have q1:1<=x.Id/\x.Id<=1073741824/\Vf l x.El=true/\0<=x.Offset:=Classical.not_not.1 fun q=>hc (.inl q);exact ⟨q1.1,q1.2.1,q1.2.2.1,q1.2.2.2,Classical.not_not.1 fun q=>hc (.inr q)⟩
    ·exact hI.2 j y (by omega) hy
 unfold Ga;refine Is.oub (Is.val ?_);obtain ⟨hm,h1⟩:=hI;rw [List.take_length] at hm;have h1:Jxl l:=Wp.1 fun i x hx=>h1 i x (Ue hx) hx;subst hm;refine Is.bind (Jg3 _ (by simp only [List.length_map]; omega)) fun r hr=>?_;exact Is.ite hr (fun hd=>Is.val (.inr (.inl ⟨h1,hd,rfl⟩))) (fun hd=>Is.val (.inr (.inr ⟨h1,Classical.not_not.1 hd,rfl⟩)))
theorem Jkv {l:Ja} (h:Sm l):Is (Fg l) fun e=>e=chk l:=by
 unfold Fg;refine Is.bind (Jkr h) fun e he=>?_;rcases he with ⟨hc,rfl⟩|⟨hc,h1,rfl⟩|⟨hc,h1,h2,rfl⟩|⟨hc,h1,h2,rfl⟩
 ·exact Is.val (by simp [chk,hc])
 ·exact Is.val (by simp [chk,hc,h1])
 ·exact Is.val (by simp [chk,hc,h1,h2])
 show Is ((Bb l).bind _) _;refine Is.bind (Jgr h) fun e he=>?_;rcases he with ⟨h3,rfl⟩|⟨h3,h4,rfl⟩|⟨h3,h4,h5,rfl⟩|⟨h3,h4,h5,rfl⟩
 ·exact Is.val (by simp [chk,hc,h1,h2,h3])
 ·exact Is.val (by simp [chk,hc,h1,h2,h3,h4])
 ·exact Is.val (by simp [chk,hc,h1,h2,h3,h4,h5])
 show Is ((Bz l).bind _) _;refine Is.bind (Jhs h h4 h5) fun e he=>?_;rcases he with ⟨h6,rfl⟩|⟨h6,h7,rfl⟩|⟨h6,h7,h8,rfl⟩|⟨h6,h7,h8,rfl⟩
 ·exact Is.val (by simp [chk,hc,h1,h2,h3,h4,h5,h6])
 ·exact Is.val (by simp [chk,hc,h1,h2,h3,h4,h5,h6,h7])
 ·exact Is.val (by simp [chk,hc,h1,h2,h3,h4,h5,h6,h7,h8])
 show Is ((Bx l).bind _) _;refine Is.bind (Jhp h) fun e he=>?_;rcases he with ⟨h9,rfl⟩|⟨h9,h10,rfl⟩|⟨h9,h10,rfl⟩
 ·exact Is.val (by simp [chk,hc,h1,h2,h3,h4,h5,h6,h7,h8,h9])
 ·exact Is.val (by simp [chk,hc,h1,h2,h3,h4,h5,h6,h7,h8,h9,h10])
 ·exact Is.val (by simp [chk,hc,h1,h2,h3,h4,h5,h6,h7,h8,h9,h10])
end PM
namespace PM
open Go Go.RowKit
structure OkL (l:Ja):Prop where
 counts:Mb l
 names:Jcd l
 dist:Js6 l
 elem:Jkj l
 joint:Jdq l
 ends:(Oa l.Joints).Nodup
 sig:Juq l
 sigd:(l.Signals.map (·.At)).Nodup
 safe:Jt4 l
 bal:Jxl l
 bald:(l.Balises.map (·.Id)).Nodup
theorem Kd7 (l:Ja):chk l=0↔OkL l:=by
 constructor
 ·intro h;unfold chk at h
  by_cases h1:Mb l
  ·by_cases h2:Jcd l
   ·by_cases h3:Js6 l
    ·by_cases h4:Jkj l
     ·by_cases h5:Jdq l
      ·by_cases h6:(Oa l.Joints).Nodup
       ·by_cases h7:Juq l
        ·by_cases h8:(l.Signals.map (·.At)).Nodup
         ·by_cases h9:Jt4 l
          ·by_cases h10:Jxl l
           ·by_cases h11:(l.Balises.map (·.Id)).Nodup
            ·exact ⟨h1,h2,h3,h4,h5,h6,h7,h8,h9,h10,h11⟩
            ·simp [h1,h2,h3,h4,h5,h6,h7,h8,h9,h10,h11] at h
           ·simp [h1,h2,h3,h4,h5,h6,h7,h8,h9,h10] at h
          ·simp [h1,h2,h3,h4,h5,h6,h7,h8,h9] at h
         ·simp [h1,h2,h3,h4,h5,h6,h7,h8] at h
        ·simp [h1,h2,h3,h4,h5,h6,h7] at h
       ·simp [h1,h2,h3,h4,h5,h6] at h
      ·simp [h1,h2,h3,h4,h5] at h
     ·simp [h1,h2,h3,h4] at h
    ·simp [h1,h2,h3] at h
   ·simp [h1,h2] at h
  ·simp [h1] at h
 ·rintro ⟨h1,h2,h3,h4,h5,h6,h7,h8,h9,h10,h11⟩;simp [chk,h1,h2,h3,h4,h5,h6,h7,h8,h9,h10,h11]
theorem Jmv {l:Ja} (h:Sm l):Fg l=some (chk l):=by
 obtain ⟨r,h1,rfl⟩:=Jkv h; exact h1
end PM
namespace PM
open Go Go.RowKit
def Khv (l:Ja) (way:List Jb):Int:=match way.getLast? with|some s=>lenOf l s|none=>0
def strS (l:Ja) (way:List Jb) (h:Int):Int:=Wg l way.dropLast+h
def Kg2 (l:Ja) (way:List Jb):Int:=match way with|s::_=>lenOf l s|[]=>0
section
variable {l:Ja} {len:Int}
end
structure MvR where
 way:List Jb
 head:Int
 left:Int
 ended:Bool
structure OkB (l:Ja) (b:Uo):Prop where
 valid:Yv l b.Steps
 len:1<=b.Length/\b.Length<=1000000
 head:1<=b.Head/\b.Head<=Khv l b.Steps
 str:b.Length<=strS l b.Steps b.Head
 fst:1<b.Steps.length->strS l b.Steps b.Head - Kg2 l b.Steps<b.Length
end PM
namespace PM
open Go Go.RowKit
end PM
namespace PM
open Go Go.RowKit
structure Bd (b:Uo):Prop where
 head:0<=b.Head/\b.Head<=1000000
 len:1<=b.Length/\b.Length<=1000000
end PM
namespace PM
open Go Go.RowKit
def Kja (t:Kr):Prop :=
 (1<=t.Id/\t.Id<=99)/\(1<=t.Length/\t.Length<=50000)/\(1<=t.Speed/\t.Speed<=10000)/\(1<=t.Accel/\t.Accel<=200)/\(1<=t.Service/\t.Service<=200)/\(t.Service<=t.Emergency/\t.Emergency<=200) /\
  (0<=t.Delay/\t.Delay<=5)/\(0<=t.Const/\t.Const<=500)/\(0<=t.Rate/\t.Rate<=100)
open Classical in
noncomputable def Kat (t:Kr):Int:=if ¬ Jdc t.Name then 3 else if ¬ Kja t then 1 else 0
theorem Kdp {α:Type} {b:Bool} {x y:α}:(bif b then some x else some y)=some (bif b then x else y):=by cases b <;> rfl
theorem Jnf {t:Kr} (h:t.Name.size<=1048576):Fi t=some (Kat t):=by
 suffices Is (Fi t) fun r=>r=Kat t by obtain ⟨r,h,rfl⟩:=this; exact h
 unfold Fi;refine (Jeb _ h).bind fun r hr=>Is.ifn hr (fun hn=>Is.val (by unfold Kat; rw [if_pos hn])) fun hn=>?_;simp only [Zf,Option.bind_some,Kdp,Bool.cond_true_left];refine ⟨_,rfl, ?_⟩
 by_cases c1:(1<=t.Id/\t.Id<=99)/\(1<=t.Length/\t.Length<=50000)/\(1<=t.Speed/\t.Speed<=10000)/\(1<=t.Accel/\t.Accel<=200)/\(1<=t.Service/\t.Service<=200)
 ·obtain ⟨⟨a1,a2⟩,⟨a3,a4⟩,⟨a5,a6⟩,⟨a7,a8⟩,a9,a10⟩:=c1
  by_cases c2:(t.Service<=t.Emergency/\t.Emergency<=200)/\(0<=t.Delay/\t.Delay<=5)/\(0<=t.Const/\t.Const<=500)/\(0<=t.Rate/\t.Rate<=100)
  ·have hR:Kja t:=⟨⟨a1,a2⟩,⟨a3,a4⟩,⟨a5,a6⟩,⟨a7,a8⟩,⟨a9,a10⟩,c2⟩
   obtain ⟨⟨b1,b2⟩,⟨b3,b4⟩,⟨b5,b6⟩,b7,b8⟩:=c2;unfold Kat;rw [if_neg (fun q=>q hn),if_neg (fun q=>q hR)];simp [a1,a2,a3,a4,a5,a6,a7,a8,a9,a10,b1,b2,b3,b4,b5,b6,b7,b8]
  ·have hR:¬ Kja t:=fun q=>c2 q.2.2.2.2.2;unfold Kat;rw [if_neg (fun q=>q hn),if_pos hR];simp only [a1,a2,a3,a4,a5,a6,a7,a8,a9,a10,decide_true,Bool.and_self,Bool.not_true,Bool.or_self,cond_false];rw [cond_eq_ite,if_pos];simp only [Bool.or_eq_true,Bool.not_eq_true',Bool.and_eq_false_iff,decide_eq_false_iff_not];omega
 ·have hR:¬ Kja t:=fun q=>c1 ⟨q.1,q.2.1,q.2.2.1,q.2.2.2.1,q.2.2.2.2.1⟩;unfold Kat;rw [if_neg (fun q=>q hn),if_pos hR];rw [cond_eq_ite,if_pos];simp only [Bool.or_eq_true,Bool.not_eq_true',Bool.and_eq_false_iff,decide_eq_false_iff_not];omega
end PM
namespace PM
open Go Go.RowKit
theorem Is.wf {S ρ:Type} {step:S->Option (S⊕ρ)} (I:S->Prop) (μ:S->Nat) {θ:ρ->Prop} (hs:∀ s,I s->Is (step s) fun o=>match o with|.inl t=>I t/\μ t<μ s|.inr r=>θ r) :
  ∀ (n:Nat) (s:S),μ s<=n->I s->Is (Js step s) θ:=by
 intro n;induction n with
 | zero =>
  intro s hn hI;obtain ⟨o,h1,h2⟩:=hs s hI;cases o with
  | inl t=>exact absurd h2.2 (by omega)
  | inr r=>exact ⟨r,Qk h1,h2⟩
 | succ n ih =>
  intro s hn hI;obtain ⟨o,h1,h2⟩:=hs s hI;cases o with
  | inl t =>
   obtain ⟨r,h3,h4⟩:=ih t (by omega) h2.1;exact ⟨r,by rw [Vz h1]; exact h3,h4⟩
  | inr r=>exact ⟨r,Qk h1,h2⟩
theorem Kaf {α:Type} {L:List α} {i:Nat} (hi:i<L.length) (hL:L.length<=1048576) {f:α->Bool} {q:α->Prop} (hf:∀ y,f y=true↔¬ q y) :
  Is (bif decide (0<(i:Int)) then (ixO L (w64 ((i:Int) - 1))).bind fun y=>some (f y) else some false) fun b=>b=true↔¬ ∀ y,0<i->L[i - 1]? = some y->q y:=by
 by_cases h0:0<i
 ·have hg:L[i - 1]? = some L[i - 1]:=List.getElem?_eq_getElem (by omega);rw [decide_eq_true (by omega),cond_true,Vc (by omega) (by omega),show (i:Int) - 1=((i - 1:Nat):Int) by omega,Zb hg];simp only [Option.bind_some];refine Is.val ?_;rw [hf];exact ⟨fun h q=>h (q _ h0 hg),fun h q=>h fun y _ hy=>by rw [hg] at hy; cases hy; exact q⟩
 ·rw [decide_eq_false (by omega),cond_false];exact Is.val (iff_of_false Bool.false_ne_true fun h=>h fun y h1=>absurd h1 h0)
theorem Jmb {α:Type} {b:Bool} {x y:α}:(bif b then some x else some y)=some (bif b then x else y):=by cases b <;> rfl
theorem Jek {x:Option Bool}:(x.bind fun r=>some r)=x:=by cases x <;> rfl
theorem Jma {α:Type} {eqf:α->α->Bool} (heq:∀ x y,eqf x y=true↔x=y) {L M:List α} (h:L.length<=1048576) {step:Int->Option (Int⊕(Unit⊕Bool))}
  (hs:∀ x3,step x3=bif decide (x3<((L.length:Nat):Int)) then ((ixO L x3).bind fun x6=>(ixO M x3).bind fun x7=>bif (!(eqf x6 x7)) then some (.inr (.inr false)) else some (.inl (w64 (x3+1)))) else some (.inr (.inl ()))) :
  Is (bif (!(decide (((L.length:Nat):Int)=((M.length:Nat):Int)))) then some false else onInl (α:=Unit) (β:=Bool) (Js step 0) fun _=>some true) fun b=>b=true↔L=M:=by
 refine Is.ifn (p:=L.length=M.length) (by rw [decide_eq_true_iff]; omega) (fun hl=>Is.val (iff_of_false Bool.false_ne_true fun e=>hl (congrArg _ e))) (fun hl=>?_);refine Is.all (L:=L) (fun i x=>M[i]? = some x) () (by omega) (fun i x hx hi _=>?_) (by rw [hs]; simp) (fun hn=>Is.val (iff_of_true rfl ?_))
 ·rw [hs];have hg:M[i]? = some M[i]:=List.getElem?_eq_getElem (by omega);refine Is.inb hi (Is.at hx (Is.at hg ?_));refine Is.ifn (heq _ _) (fun hb=>Is.val (iff_of_false Bool.false_ne_true fun e=>?_)) (fun hb=>Is.val ⟨rfl,by rw [hg,hb]⟩);subst e; rw [hg] at hx; cases hx; exact hb rfl
 ·apply List.ext_getElem?;intro i;cases hx:L[i]? with
  | some x=>exact (hn i x hx).symm
  | none=>exact (List.getElem?_eq_none (by have:=List.getElem?_eq_none_iff.1 hx; omega)).symm
def Jyu (l:List Jc) (i:Nat) (x:Jc):Prop:=(∀ y,0<i->l[i - 1]? = some y->y.At<=x.At)/\∀ y∈l.take i,y.Id≠x.Id
def LVal (l:List Jc):Prop:=l.length<=24/\∀ i x,l[i]? = some x->Jyu l i x
theorem Jk3 {l:List Jc} (h:l.length<=1048576) (id:Int):Is (Gt l 0 id) fun r=>0<=r↔∃ y∈l,y.Id=id:=by
 unfold Gt;refine Is.all (L:=l) (fun _ x=>¬ x.Id=id) () (by omega) (fun i x hx hi _=>?_) (by simp [Hl]) (fun hn=>Is.val ?_)
 ·unfold Hl;refine Is.inb hi (Is.at hx ?_);refine Is.ite (p:=x.Id=id) Ky (fun hb=>Is.val (iff_of_true (by omega) ⟨x,List.mem_of_getElem? hx,hb⟩)) (fun hb=>Is.val ⟨rfl,hb⟩)
 ·refine iff_of_false (by omega) fun ⟨y,hy,e⟩=>?_;exact Wp.1 hn y hy e
theorem Jiq (l:List Jc):Is (Ew l) fun b=>b=true↔LVal l:=by
 unfold Ew;refine Is.ite (p:=24<l.length) (by rw [decide_eq_true_iff]; omega) (fun h=>Is.val (iff_of_false Bool.false_ne_true fun q=>absurd q.1 (by omega))) (fun h=>?_);refine Is.all (L:=l) (fun i x=>Jyu l i x) () (by omega) (fun i x hx hi _=>?_) (by simp [Gf]) (fun hn=>Is.val (iff_of_true rfl ⟨by omega,hn⟩));unfold Gf;refine Is.inb hi (Is.at hx ?_);refine Is.bind (Kaf hi (by omega) (f:=fun y=>decide (x.At<y.At)) (q:=fun y=>y.At<=x.At) fun y=>by simp) fun b hb=>?_;refine Is.bind (Is.or (q:=∃ y∈l.take i,y.Id=x.Id) hb fun _=>?_) fun c hc=>?_
 ·refine Is.to (Kdj (by omega)) ?_;exact (Jk3 (by simp; omega) x.Id).bind fun r hr=>Is.dec hr
 ·have e:(¬ (∀ y,0<i->l[i - 1]? = some y->y.At<=x.At)\/∃ y∈l.take i,y.Id=x.Id)↔¬ Jyu l i x:=by
   unfold Jyu;rw [Classical.not_and_iff_not_or_not];simp
  refine Is.ite (hc.trans e) (fun hn=>Is.val (iff_of_false Bool.false_ne_true fun q=>hn (q.2 i x hx))) (fun hn=>Is.val ⟨rfl,Classical.not_not.1 hn⟩)
end PM
namespace PM
open Go Go.RowKit
def ltL (x y:Jc):Prop:=x.At<y.At\/(x.At=y.At/\x.Id<y.Id)
instance (x y:Jc):Decidable (ltL x y):=by unfold ltL; infer_instance
def leL (x y:Jc):Prop:=¬ ltL y x
theorem Khf (x:Jc):leL x x:=by unfold leL ltL; omega
theorem Mp {x y z:Jc} (h:leL x y) (g:leL y z):leL x z:=by unfold leL ltL at *; omega
theorem Jbz {x y:Jc} (h:ltL x y):leL x y:=by unfold leL ltL at *; omega
theorem Jtz {x y z:Jc} (h:leL x y) (g:ltL y z):ltL x z:=by unfold leL ltL at *; omega
theorem Jnv (a b:Int):Yw a b=some (if a<b then -1 else if b<a then 1 else 0):=by
 unfold Yw Ey;simp only [decide_true,Bool.not_true,Option.bind_some,cond_false]
 by_cases h1:a<b
 ·simp [h1]
 ·by_cases h2:b<a <;> simp [h1,h2]
theorem Kmd (a b:Int):Oo [a,b]=some (if a=0 then b else a):=by
 unfold Oo;have i0:ixO [a,b] 0=some a:=rfl;have i1:ixO [a,b] 1=some b:=rfl
 by_cases ha:a=0
 ·subst ha;rw [Vz (s':=(1:Int)) (by simp only [Dp,i0,Option.bind_some]; rfl)]
  by_cases hb:b=0
  ·subst hb;rw [Vz (s':=(2:Int)) (by simp only [Dp,i1,Option.bind_some]; rfl),Qk (r:=.inl ()) (by rfl)]
   rfl
  ·rw [Qk (r:=.inr b) (by simp only [Dp,i1,Option.bind_some,decide_eq_false hb]; rfl)];simp [onInl,Vs]
 ·rw [Qk (r:=.inr a) (by simp only [Dp,i0,Option.bind_some,decide_eq_false ha]; rfl)];simp [onInl,Vs,ha]
theorem Jr3 (x y:Jc):∃ r:Int,Ye x y=some r/\decide (r<0)=decide (ltL x y):=by
 unfold Ye;rw [Jnv,Jnv];simp only [Option.bind_some,Kmd];refine ⟨_,rfl,decide_eq_decide.2 ?_⟩;unfold ltL
 (repeat' split) <;> omega
section
variable {α:Type}
theorem xix {N i:Nat} (h:i<N):Wt 0 N (i:Int)=some i:=by
 unfold Wt;rw [if_pos (by omega)];simp
theorem xld {D:List α} {N i:Nat} {x:α} (hN:D.length=N) (h:D[i]? = some x):Vi D N i=some x:=by
 unfold Vi;rw [if_pos hN,h]
theorem Ji5 (A:List α) (x:α) (B:List α):(A++x::B)[A.length]? = some x:=by simp
theorem Jse (A:List α) (x y:α) (B:List α):(A++x::y::B)[A.length+1]? = some y:=by
 rw [List.getElem?_append_right (by omega)]; simp
theorem Jvb (A:List α) (x y:α) (B:List α):((A++x::y::B).set (A.length+1) x).set A.length y=A++y::x::B:=by
 rw [List.set_append_right _ _ (by omega),Nat.add_sub_cancel_left,List.set_append_right _ _ (by omega),Nat.sub_self]; rfl
theorem Kbr (A:List α) (x y:α) (B:List α):((A++x::y::B).set A.length y).set (A.length+1) x=A++y::x::B:=by
 rw [List.set_append_right _ _ (by omega),Nat.sub_self,List.set_append_right _ _ (by omega),Nat.add_sub_cancel_left]; rfl
end
theorem Kim {i:Nat} (h:i<1048577):w64 (((i+1:Nat):Int) - 1)=(i:Int):=by rw [Vc (by omega) (by omega)]; omega
theorem Jw4 {i:Nat} (h:i<1048577):w64 ((i:Int)+1)=((i+1:Nat):Int):=Cv (by omega)
theorem Jx3 {i j:Nat} (h:i<1048577) (h2:j<1048577):w64 ((i:Int)+(j:Int))=((i+j:Nat):Int):=by rw [Vc (by omega) (by omega)]; omega
theorem Jfp {i j:Nat} (h:i<4194304) (h2:j<=i):w64 ((i:Int) - (j:Int))=((i - j:Nat):Int):=by rw [Vc (by omega) (by omega)]; omega
theorem Kg7 {i j:Nat} (h:i<1048577) (h2:j<1048577):w64 ((IntKind.u64.wrap (w64 ((i:Int)+(j:Int)))).fdiv 2)=(((i+j) / 2:Nat):Int):=by
 rw [Jx3 h h2,IntWalk.u64_in _ ⟨by omega,by omega⟩];rw [Int.fdiv_eq_ediv_of_nonneg _ (by omega),Vc (by omega) (by omega)];omega
theorem Nq (a:List Jc):(a.map cellsOf).length=a.length:=List.length_map _
theorem Kdr (a0 P Q:List Jc) (hL:a0.length<=1048576):∀ (n:Nat) (S1 S2:List Jc) (x:Jc),S1.length=n->(P++S1++x::(S2++Q)).length=a0.length->(S1++S2).Pairwise leL->(∀ y∈S2,ltL x y) ->
  ∃ M,Js (Kt a0 (P.length:Int)) (((P.length+S1.length:Nat):Int),P++S1++x::(S2++Q))=some (.inl (P++M++Q))/\M.Perm (x::(S1++S2))/\M.Pairwise leL:=by
 intro n;induction n with
 | zero =>
  intro S1 S2 x hn hlen hs hx;have:S1=[]:=List.eq_nil_of_length_eq_zero hn;subst this;refine ⟨x::S2, ?_,List.Perm.refl _, ?_⟩
  ·rw [Qk (r:=.inl (P++[]++x::(S2++Q))) (by
    simp only [Kt,List.length_nil,Nat.add_zero,decide_eq_false (show ¬ ((P.length:Int)<(P.length:Int)) by omega),cond_false,Option.bind_some])]
   simp
  ·rw [List.pairwise_cons];exact ⟨fun y hy=>Jbz (hx y hy),by simpa using hs⟩
 | succ n ih =>
  intro S1 S2 x hn hlen hs hx;obtain ⟨S,y,rfl⟩:∃ S y,S1=S++[y]:=by
   rcases List.eq_nil_or_concat S1 with e|⟨S,y,e⟩
   ·subst e; cases hn
   ·exact ⟨S,y,by simpa using e⟩
  have hSn:S.length=n:=by simpa using hn
  have hD:P++(S++[y])++x::(S2++Q)=(P++S)++y::x::(S2++Q):=by simp
  have hlen':((P++S)++y::x::(S2++Q)).length=a0.length:=by rw [<- hD]; exact hlen
  have hA:(P++S).length=P.length+S.length:=by simp
  have hb:P.length+S.length+1<a0.length:=by rw [<- hlen']; simp; omega
  have i1:=xix hb;have i0:=xix (N:=a0.length) (i:=P.length+S.length) (by omega);have g1:((P++S)++y::x::(S2++Q))[P.length+S.length+1]? = some x:=by rw [<- hA]; exact Jse _ _ _ _
  have g0:((P++S)++y::x::(S2++Q))[P.length+S.length]? = some y:=by rw [<- hA]; exact Ji5 _ _ _
  obtain ⟨r,hr,hd⟩:=Jr3 x y;have hj:P.length+(S++[y]).length=P.length+S.length+1:=by simp; omega
  rw [hD,hj]
  by_cases hlt:ltL x y
  ·obtain ⟨M,m1,m2,m3⟩:=ih S (y::S2) x hSn (by rw [<- hlen']; simp) (by simpa using hs) (fun z hz=>by
    rcases List.mem_cons.1 hz with rfl|hz
    ·exact hlt
    ·exact hx z hz)
   refine ⟨M, ?_,m2.trans (by simp),m3⟩;rw [Vz (s':=(((P.length+S.length:Nat):Int),P++S++x::(y::S2++Q))) ?_]
   ·exact m1
   ·have e1:decide ((P.length:Int)<((P.length+S.length+1:Nat):Int))=true:=decide_eq_true (by omega);have hsw:=Jvb (P++S) y x (S2++Q);rw [hA] at hsw;have hl2:(((P++S)++y::x::(S2++Q)).set (P.length+S.length+1) y).length=a0.length:=by rw [List.length_set]; exact hlen'
    have g2:(((P++S)++y::x::(S2++Q)).set (P.length+S.length+1) y)[P.length+S.length]? = some y:=by
     rw [List.getElem?_set_ne (by omega)]; exact g0
    simp only [Kt,Nq,e1,cond_true,Kim (show P.length+S.length<1048577 by omega),i1,i0,Option.bind_some,xld hlen' g1,xld hlen' g0,hr,hd,decide_eq_true hlt,xld hl2 g2];rw [hsw]; simp
  ·refine ⟨S++y::x::S2, ?_, ?_, ?_⟩
   ·rw [Qk (r:=.inl ((P++S)++y::x::(S2++Q))) ?_]
    ·simp
    ·have e1:decide ((P.length:Int)<((P.length+S.length+1:Nat):Int))=true:=decide_eq_true (by omega);simp only [Kt,Nq,e1,cond_true,Kim (show P.length+S.length<1048577 by omega),i1,i0,Option.bind_some,xld hlen' g1,xld hlen' g0,hr,hd,decide_eq_false hlt,cond_false]
   ·have:(S++y::x::S2).Perm (x::(S++y::S2)):=by
     have:=@List.perm_middle _ x (S++[y]) S2
     simpa using this
    simpa using this
   ·have hs':(S++y::S2).Pairwise leL:=by simpa using hs
    rw [List.pairwise_append] at hs' ⊢;obtain ⟨q1,q2,q3⟩:=hs';rw [List.pairwise_cons] at q2;refine ⟨q1, ?_,fun u hu v hv=>?_⟩
    ·rw [List.pairwise_cons,List.pairwise_cons];refine ⟨fun z hz=>?_,fun z hz=>Jbz (hx z hz),q2.2⟩;rcases List.mem_cons.1 hz with rfl|hz
     ·exact hlt
     ·exact q2.1 z hz
    ·rcases List.mem_cons.1 hv with rfl|hv
     ·exact q3 u hu _ (by simp)
     ·rcases List.mem_cons.1 hv with rfl|hv
      ·exact Mp (q3 u hu y (by simp)) hlt
      ·exact q3 u hu v (by simp [hv])
theorem Jou (a0 P Q:List Jc) (hL:a0.length<=1048576) (b:Nat):∀ (R S:List Jc),S≠[]->b=P.length+S.length+R.length->(P++S++(R++Q)).length=a0.length->S.Pairwise leL ->
  ∃ M,Js (Kv a0 (P.length:Int) (b:Int)) (((P.length+S.length:Nat):Int),P++S++(R++Q))=some (.inl (P++M++Q))/\M.Perm (S++R)/\M.Pairwise leL:=by
 intro R;induction R with
 | nil =>
  intro S hS hb hlen hs;refine ⟨S, ?_,by simp,hs⟩;rw [Qk (r:=.inl (P++S++([]++Q))) (by
   simp only [Kv,decide_eq_false (show ¬ (((P.length+S.length:Nat):Int)<(b:Int)) by simp at hb; omega),cond_false])]
  simp
 | cons x R ih =>
  intro S hS hb hlen hs;have hlen1:(P++S++x::([]++(R++Q))).length=a0.length:=by rw [<- hlen]; simp
  obtain ⟨M,m1,m2,m3⟩:=Kdr a0 P (R++Q) hL S.length S [] x rfl hlen1 (by simpa using hs) (fun y hy=>by cases hy);have hMl:M.length=S.length+1:=by rw [m2.length_eq]; simp
  have hM:M≠[]:=fun e=>by rw [e] at hMl; simp at hMl
  have hbl:b<=1048576:=by
   simp only [List.length_append,List.length_cons] at hlen hb; omega
  obtain ⟨M2,n1,n2,n3⟩:=ih M hM (by rw [hMl]; simp at hb; omega) (by rw [<- hlen]; simp [hMl]; omega) m3;refine ⟨M2, ?_,n2.trans ?_,n3⟩
  ·rw [Vz (s':=(((P.length+M.length:Nat):Int),P++M++(R++Q))) ?_]
   ·exact n1
   ·have e1:decide (((P.length+S.length:Nat):Int)<(b:Int))=true:=decide_eq_true (by simp at hb; omega);simp only [List.nil_append] at m1;simp only [Kv,e1,cond_true,List.cons_append];rw [m1];simp only [onInl,Vs,Option.bind_some,Jw4 (show P.length+S.length<1048577 by simp at hb; omega),hMl]
    rfl
  ·have:(M++R).Perm ((x::(S++[]))++R):=m2.append_right R;refine this.trans ?_;simp only [List.append_nil,List.cons_append];exact (List.perm_middle).symm
theorem Jgp (P X Q:List Jc) (hL:(P++X++Q).length<=1048576):∃ M,Kk (P++X++Q) (P.length:Int) ((P.length+X.length:Nat):Int)=some (P++M++Q)/\M.Perm X/\M.Pairwise leL:=by
 unfold Kk;have hb:P.length<1048577:=by simp only [List.length_append] at hL; omega
 rw [Jw4 hb];cases X with
 | nil =>
  refine ⟨[], ?_,List.Perm.refl _,List.Pairwise.nil⟩;rw [Qk (r:=.inl (P++[]++Q)) (by
   simp only [Kv,List.length_nil,decide_eq_false (show ¬ (((P.length+1:Nat):Int)<((P.length+0:Nat):Int)) by omega),cond_false])]
  rfl
 | cons x R =>
  obtain ⟨M,m1,m2,m3⟩:=Jou (P++x::R++Q) P Q hL (P.length+(x::R).length) R [x] (by simp) (by simp; omega) (by simp) (by simp);refine ⟨M, ?_,by simpa using m2,m3⟩;have e:P++x::R++Q=P++[x]++(R++Q):=by simp
  have e2:P.length+[x].length=P.length+1:=rfl;rw [e2] at m1;rw [show (P++x::R++Q)=P++[x]++(R++Q) from e] at m1 ⊢;rw [m1]; rfl
theorem Jny (a0:List Jc) (hL:a0.length<=1048576) (a b n:Nat):∀ (X Y:List Jc) (A B Q:List Jc) (i:Nat),X.length=Y.length->i+X.length=n->A.length=a+i->A.length+X.length+B.length=b+i->(A++X++B++Y++Q).length=a0.length ->
  Js (Qc a0 (a:Int) (b:Int) (n:Int)) ((i:Int),A++X++B++Y++Q)=some (.inl (A++Y++B++X++Q)):=by
 intro X;induction X with
 | nil =>
  intro Y A B Q i hxy hi ha hb hlen;have:Y=[]:=List.eq_nil_of_length_eq_zero hxy.symm;subst this;rw [Qk (r:=.inl (A++[]++B++[]++Q)) (by
   simp only [Qc,decide_eq_false (show ¬ ((i:Int)<(n:Int)) by simp at hi; omega),cond_false])]
 | cons x X ih =>
  intro Y A B Q i hxy hi ha hb hlen;cases Y with
  | nil=>cases hxy
  | cons y Y =>
   have hxy':X.length=Y.length:=by simpa using hxy
   simp only [List.length_cons] at hi hb;have hlen0:=hlen;simp only [List.length_append,List.length_cons] at hlen
   -- the places
   have e0:A++x::X++B++y::Y++Q=A++x::(X++B++y::(Y++Q)):=by simp
   have e1:A++x::X++B++y::Y++Q=(A++x::(X++B))++y::(Y++Q):=by simp
   have hA1:(A++x::(X++B)).length=b+i:=by simp; omega
   have gb:(A++x::X++B++y::Y++Q)[b+i]? = some y:=by rw [e1,<- hA1]; exact Ji5 _ _ _
   have ga:(A++x::X++B++y::Y++Q)[a+i]? = some x:=by rw [e0,<- ha]; exact Ji5 _ _ _
   have s1:(A++x::X++B++y::Y++Q).set (a+i) y=A++y::(X++B++y::(Y++Q)):=by
    rw [e0,<- ha,List.set_append_right _ _ (Nat.le_refl _),Nat.sub_self]; rfl
   have s2:(A++y::(X++B++y::(Y++Q))).set (b+i) x=(A++[y])++X++(B++[x])++Y++Q:=by
    have e3:A++y::(X++B++y::(Y++Q))=(A++y::(X++B))++y::(Y++Q):=by simp
    have hA3:(A++y::(X++B)).length=b+i:=by simp; omega
    rw [e3,<- hA3,List.set_append_right _ _ (Nat.le_refl _),Nat.sub_self];simp
   have g3:(A++y::(X++B++y::(Y++Q)))[b+i]? = some y:=by
    have e3:A++y::(X++B++y::(Y++Q))=(A++y::(X++B))++y::(Y++Q):=by simp
    have hA3:(A++y::(X++B)).length=b+i:=by simp; omega
    rw [e3,<- hA3]; exact Ji5 _ _ _
   have l1:(A++y::(X++B++y::(Y++Q))).length=a0.length:=by rw [<- hlen0]; simp
   have hstep:Qc a0 (a:Int) (b:Int) (n:Int) ((i:Int),A++x::X++B++y::Y++Q)=some (.inl (((i+1:Nat):Int),(A++[y])++X++(B++[x])++Y++Q)):=by
    simp only [Qc,Nq,decide_eq_true (show (i:Int)<(n:Int) by omega),cond_true,Jx3 (show b<1048577 by omega) (show i<1048577 by omega),Jx3 (show a<1048577 by omega) (show i<1048577 by omega),
     xix (show b+i<a0.length by omega),xix (show a+i<a0.length by omega),Option.bind_some,xld hlen0 gb,xld hlen0 ga,s1,xld l1 g3,s2,Jw4 (show i<1048577 by omega)]
   rw [Vz hstep];have:=ih Y (A++[y]) (B++[x]) Q (i+1) hxy' (by omega) (by simp; omega) (by simp; omega) (by simp; omega);rw [this];simp
theorem Jcu (A X B Y Q:List Jc) (hL:(A++X++B++Y++Q).length<=1048576) (hxy:X.length=Y.length) :
  Kh (A++X++B++Y++Q) (A.length:Int) ((A.length+X.length+B.length:Nat):Int) (X.length:Int)=some (A++Y++B++X++Q):=by
 unfold Kh;have:=Jny (A++X++B++Y++Q) hL A.length (A.length+X.length+B.length) X.length X Y A B Q 0 hxy (by omega) (by omega) (by omega) rfl;rw [show ((0:Nat):Int)=0 from rfl] at this;rw [this]; rfl
theorem Js1 (m:Nat) (hm:m<=1048576):∀ (n:Nat) (U V A Q:List Jc),U.length+V.length<=n->0<U.length->0<V.length->A.length+U.length=m->(A++U++V++Q).length<=1048576 ->
  ∃ (A' U' V' Q':List Jc),Js (Qn (m:Int)) ((U.length:Int),A++U++V++Q,(V.length:Int))=some (.inl (A'++U'++V'++Q',(U'.length:Int)))/\U'.length=V'.length/\0<U'.length/\A'.length+U'.length=m/\A'++V'++U'++Q'=A++V++U++Q/\(A'++U'++V'++Q').length=(A++U++V++Q).length:=by
 intro n;induction n with
 | zero=>intro U V A Q h h1 h2; omega
 | succ n ih =>
  intro U V A Q h h1 h2 ha hL;have hlen:=hL;simp only [List.length_append] at hlen
  by_cases e:U.length=V.length
  ·refine ⟨A,U,V,Q, ?_,e,h1,ha,rfl,rfl⟩;rw [Qk (r:=.inl (A++U++V++Q,(U.length:Int))) (by
    simp only [Qn,decide_eq_true (show (U.length:Int)=(V.length:Int) by omega),Bool.not_true,cond_false])]
  ·have en:decide ((U.length:Int)=(V.length:Int))=false:=decide_eq_false (by omega)
   by_cases hlt:V.length<U.length
   · -- the first part of U changes places with V
    have hU:U=U.take V.length++U.drop V.length:=(List.take_append_drop _ _).symm;have t1:(U.take V.length).length=V.length:=by simp; omega
    have t2:(U.drop V.length).length=U.length - V.length:=by simp
    have hsw:=Jcu A (U.take V.length) (U.drop V.length) V Q (by rw [List.append_assoc A,<- hU]; exact hL) t1;rw [List.append_assoc A,<- hU,t1,t2] at hsw;have e2:A.length+V.length+(U.length - V.length)=m:=by omega
    rw [e2] at hsw;obtain ⟨A',U',V',Q',k1,k2,k3,k4,k5,k6⟩:=ih (U.drop V.length) (U.take V.length) (A++V) Q (by omega) (by omega) (by omega) (by simp; omega) (by simp; omega);rw [t1,t2] at k1;refine ⟨A',U',V',Q', ?_,k2,k3,k4, ?_, ?_⟩
    ·rw [Vz (s':=(((U.length - V.length:Nat):Int),A++V++U.drop V.length++U.take V.length++Q,(V.length:Int))) ?_]
     ·exact k1
     ·have e3:m - U.length=A.length:=by omega
      simp only [Qn,en,Bool.not_false,cond_true,decide_eq_true (show (V.length:Int)<(U.length:Int) by omega),Jfp (show m<4194304 by omega) (show U.length<=m by omega),e3,hsw,Option.bind_some,Jfp (show U.length<4194304 by omega) (show V.length<=U.length by omega)]
    ·rw [k5,List.append_assoc (A++V),List.take_append_drop]
    ·rw [k6]; simp; omega
   · -- U changes places with the last part of V
    have hV:V=V.take (V.length - U.length)++V.drop (V.length - U.length):=(List.take_append_drop _ _).symm;have t1:(V.take (V.length - U.length)).length=V.length - U.length:=by simp
    have t2:(V.drop (V.length - U.length)).length=U.length:=by simp; omega
    have hD:A++U++V++Q=A++U++V.take (V.length - U.length)++V.drop (V.length - U.length)++Q:=by
     rw [List.append_assoc (A++U) (V.take _),<- hV]
    have hsw:=Jcu A U (V.take (V.length - U.length)) (V.drop (V.length - U.length)) Q (by rw [<- hD]; exact hL) t2.symm;rw [<- hD,t1] at hsw;obtain ⟨A',U',V',Q',k1,k2,k3,k4,k5,k6⟩:=ih (V.drop (V.length - U.length)) (V.take (V.length - U.length)) A (U++Q) (by omega) (by omega) (by omega) (by omega) (by simp; omega);rw [t1,t2] at k1;refine ⟨A',U',V',Q', ?_,k2,k3,k4, ?_, ?_⟩
    ·rw [Vz (s':=((U.length:Int),A++V.drop (V.length - U.length)++V.take (V.length - U.length)++(U++Q),((V.length - U.length:Nat):Int))) ?_]
     ·exact k1
     ·have e3:m - U.length=A.length:=by omega
      have e4:w64 ((w64 ((m:Int)+(V.length:Int))) - (U.length:Int))=((A.length+U.length+(V.length - U.length):Nat):Int):=by
       rw [Jx3 (by omega) (by omega),Jfp (by omega) (by omega)]; omega
      simp only [Qn,en,Bool.not_false,cond_true,decide_eq_false (show ¬ (V.length:Int)<(U.length:Int) by omega),cond_false,Jfp (show m<4194304 by omega) (show U.length<=m by omega),e3,e4,hsw,Option.bind_some,Jfp (show V.length<4194304 by omega) (show U.length<=V.length by omega)];simp
    ·rw [k5,List.append_assoc A,<- hV]; simp
    ·rw [k6]; simp; omega
theorem Kbu (A U V Q:List Jc) (hL:(A++U++V++Q).length<=1048576) (h1:0<U.length) (h2:0<V.length) :
  Km (A++U++V++Q) (A.length:Int) ((A.length+U.length:Nat):Int) ((A.length+U.length+V.length:Nat):Int)=some (A++V++U++Q):=by
 unfold Km;have hlen:=hL;simp only [List.length_append] at hlen;obtain ⟨A',U',V',Q',k1,k2,k3,k4,k5,k6⟩:=Js1 (A.length+U.length) (by omega) (U.length+V.length) U V A Q (Nat.le_refl _) h1 h2 rfl hL;rw [Jfp (by omega) (by omega),Jfp (by omega) (by omega),show A.length+U.length - A.length=U.length by omega,show A.length+U.length+V.length - (A.length+U.length)=V.length by omega,k1];have hlen':(A'++U'++V'++Q').length<=1048576:=by rw [k6]; exact hL
 have hsw:=Jcu A' U' [] V' Q' (by simpa using hlen') k2;simp only [List.append_nil,List.length_nil,Nat.add_zero] at hsw;rw [k4] at hsw;simp only [onInl,Vs,Option.bind_some];rw [Jfp (by omega) (by omega),show A.length+U.length - U'.length=A'.length by omega,hsw,k5]
 rfl
theorem Jrt {β:Type} {step:Int×Int->Option ((Int×Int)⊕(Int⊕β))} (p:Nat->Prop) [DecidablePred p] (lo hi:Nat) (hmono:∀ h k,lo<=h->h<=k->k<hi->p k->p h)
  (hs:∀ i j:Nat,lo<=i->i<j->j<=hi->step ((i:Int),(j:Int))=some (.inl (if p ((i+j) / 2) then ((((i+j) / 2+1:Nat):Int),(j:Int)) else ((i:Int),(((i+j) / 2:Nat):Int)))))
  (he:∀ i:Nat,step ((i:Int),(i:Int))=some (.inr (.inl (i:Int)))):lo<=hi->∃ s:Nat,lo<=s/\s<=hi/\Js step ((lo:Int),(hi:Int))=some (.inl (s:Int))/\(∀ h,lo<=h->h<s->p h)/\∀ h,s<=h->h<hi->¬ p h:=by
 suffices ∀ n i j:Nat,j - i<=n->lo<=i->i<=j->j<=hi->(∀ h,lo<=h->h<i->p h)->(∀ h,j<=h->h<hi->¬ p h)->∃ s:Nat,lo<=s/\s<=hi/\Js step ((i:Int),(j:Int))=some (.inl (s:Int))/\(∀ h,lo<=h->h<s->p h)/\∀ h,s<=h->h<hi->¬ p h from
  fun hlh=>this (hi - lo) lo hi (Nat.le_refl _) (Nat.le_refl _) hlh (Nat.le_refl _) (fun h h1 h2=>by omega) (fun h h1 h2=>by omega)
 intro n;induction n with
 | zero =>
  intro i j hn h1 h2 h3 h4 h5;have:i=j:=by omega
  subst this;exact ⟨i,h1,h3,Qk (he i),h4,h5⟩
 | succ n ih =>
  intro i j hn h1 h2 h3 h4 h5
  by_cases hij:i=j
  ·subst hij; exact ⟨i,h1,h3,Qk (he i),h4,h5⟩
  ·have hlt:i<j:=by omega
   by_cases hp:p ((i+j) / 2)
   ·obtain ⟨s,k1,k2,k3,k4,k5⟩:=ih ((i+j) / 2+1) j (by omega) (by omega) (by omega) h3 (fun h q1 q2=>hmono h _ q1 (by omega) (by omega) hp) h5;exact ⟨s,k1,k2,by rw [Vz (hs i j h1 hlt h3),if_pos hp]; exact k3,k4,k5⟩
   ·obtain ⟨s,k1,k2,k3,k4,k5⟩:=ih i ((i+j) / 2) (by omega) h1 (by omega) (by omega) h4 (fun h q1 q2 q3=>hp (hmono _ h (by omega) q1 q2 q3));exact ⟨s,k1,k2,by rw [Vz (hs i j h1 hlt h3),if_neg hp]; exact k3,k4,k5⟩
end PM
namespace PM
open Go Go.RowKit
theorem Kj1 {i:Nat} (h:i<4194304) (h1:1<=i):w64 ((i:Int) - 1)=((i - 1:Nat):Int):=by rw [Vc (by omega) (by omega)]; omega
theorem Nc {X:List Jc} (hX:X.Pairwise leL) {i j:Nat} {u v:Jc} (hij:i<=j) (hu:X[i]? = some u) (hv:X[j]? = some v):leL u v:=by
 obtain ⟨hi,rfl⟩:=List.getElem?_eq_some_iff.1 hu;obtain ⟨hj,rfl⟩:=List.getElem?_eq_some_iff.1 hv
 by_cases e:i=j
 ·subst e; exact Khf _
 ·exact List.pairwise_iff_getElem.1 hX i j hi hj (by omega)
theorem gL (P L R Q:List Jc) {i:Nat} (h:i<L.length):(P++L++R++Q)[P.length+i]? = L[i]?:=by
 rw [List.append_assoc,List.append_assoc,List.getElem?_append_right (by omega),Nat.add_sub_cancel_left,List.getElem?_append_left (by omega)]
theorem gR (P L R Q:List Jc) {i:Nat} (h:i<R.length):(P++L++R++Q)[P.length+L.length+i]? = R[i]?:=by
 rw [List.append_assoc (P++L),List.getElem?_append_right (by simp),show P.length+L.length+i - (P++L).length=i by simp,List.getElem?_append_left (by omega)]
theorem Kk8 (a0:List Jc) (hL:a0.length<=1048576) (x:Jc) (i:Nat):∀ (R A Q:List Jc),A.length+R.length+1=i->(A++x::(R++Q)).length=a0.length ->
  Js (Qu a0 (i:Int)) ((A.length:Int),A++x::(R++Q))=some (.inl (A++R++x::Q)):=by
 intro R;induction R with
 | nil =>
  intro A Q hi hlen;have hb:A.length<1048577:=by simp at hlen; omega
  rw [Qk (r:=.inl (A++x::([]++Q))) (by
   simp only [Qu,<- hi,List.length_nil,Nat.add_zero,Kim hb,decide_eq_false (show ¬ ((A.length:Int)<(A.length:Int)) by omega),cond_false])]
  simp
 | cons y R ih =>
  intro A Q hi hlen;simp only [List.length_cons] at hi;have hlen1:(A++x::y::(R++Q)).length=a0.length:=by rw [<- hlen]; simp
  have hl2:=hlen1;simp only [List.length_append,List.length_cons] at hl2;have g1:(A++x::y::(R++Q))[A.length+1]? = some y:=Jse _ _ _ _;have g0:(A++x::y::(R++Q))[A.length]? = some x:=Ji5 _ _ _;have hl3:((A++x::y::(R++Q)).set A.length y).length=a0.length:=by rw [List.length_set]; exact hlen1
  have g2:((A++x::y::(R++Q)).set A.length y)[A.length+1]? = some y:=by rw [List.getElem?_set_ne (by omega)]; exact g1
  have:=ih (A++[y]) Q (by simp; omega) (by rw [<- hlen]; simp);rw [Vz (s':=(((A++[y]).length:Int),(A++[y])++x::(R++Q))) ?_,this]
  ·simp
  ·simp only [Qu,Nq,Kj1 (show i<4194304 by omega) (by omega),decide_eq_true (show (A.length:Int)<((i - 1:Nat):Int) by omega),cond_true,Jw4 (show A.length<1048577 by omega),xix (show A.length+1<a0.length by omega),xix (show A.length<a0.length by omega),List.cons_append,Option.bind_some,xld hlen1 g1,xld hlen1 g0,xld hl3 g2,Kbr];simp
theorem Klt (a0:List Jc) (hL:a0.length<=1048576) (x:Jc) (A:List Jc):∀ (n:Nat) (L Q:List Jc),L.length=n->(A++L++x::Q).length=a0.length ->
  Js (Qw a0 (A.length:Int)) (((A.length+L.length:Nat):Int),A++L++x::Q)=some (.inl (A++x::(L++Q))):=by
 intro n;induction n with
 | zero =>
  intro L Q hn hlen;have:L=[]:=List.eq_nil_of_length_eq_zero hn;subst this;rw [Qk (r:=.inl (A++[]++x::Q)) (by
   simp only [Qw,List.length_nil,Nat.add_zero,decide_eq_false (show ¬ ((A.length:Int)<(A.length:Int)) by omega),cond_false])]
  simp
 | succ n ih =>
  intro L Q hn hlen;obtain ⟨S,y,rfl⟩:∃ S y,L=S++[y]:=by
   rcases List.eq_nil_or_concat L with e|⟨S,y,e⟩
   ·subst e; cases hn
   ·exact ⟨S,y,by simpa using e⟩
  have hSn:S.length=n:=by simpa using hn
  have hD:A++(S++[y])++x::Q=(A++S)++y::x::Q:=by simp
  have hlen':((A++S)++y::x::Q).length=a0.length:=by rw [<- hD]; exact hlen
  have hA:(A++S).length=A.length+S.length:=by simp
  have hb:A.length+S.length+1<a0.length:=by rw [<- hlen']; simp; omega
  have g1:((A++S)++y::x::Q)[A.length+S.length+1]? = some x:=by rw [<- hA]; exact Jse _ _ _ _
  have g0:((A++S)++y::x::Q)[A.length+S.length]? = some y:=by rw [<- hA]; exact Ji5 _ _ _
  have hj:A.length+(S++[y]).length=A.length+S.length+1:=by simp; omega
  have hl2:(((A++S)++y::x::Q).set (A.length+S.length+1) y).length=a0.length:=by rw [List.length_set]; exact hlen'
  have g2:(((A++S)++y::x::Q).set (A.length+S.length+1) y)[A.length+S.length]? = some y:=by
   rw [List.getElem?_set_ne (by omega)]; exact g0
  have hsw:=Jvb (A++S) y x Q;rw [hA] at hsw;have:=ih S (y::Q) hSn (by rw [<- hlen']; simp);rw [hD,hj,Vz (s':=(((A.length+S.length:Nat):Int),A++S++x::y::Q)) ?_,this]
  ·simp
  ·simp only [Qw,Nq,decide_eq_true (show (A.length:Int)<((A.length+S.length+1:Nat):Int) by omega),cond_true,Kim (show A.length+S.length<1048577 by omega),xix hb,xix (show A.length+S.length<a0.length by omega),Option.bind_some,xld hlen' g1,xld hlen' g0,xld hl2 g2,hsw]
theorem Kdi (n:Nat):Kc (n+1)=Jq (Kc n):=rfl
theorem Jfe {α:Type} {L:List α} {k:Nat} {x:α} (h:x∈L.take k):∃ i,i<k/\L[i]? = some x:=by
 obtain ⟨i,hi⟩:=List.getElem?_of_mem h;rw [List.getElem?_take] at hi;split at hi
 ·exact ⟨i,by assumption,hi⟩
 ·cases hi
theorem Jfc {α:Type} {L:List α} {k:Nat} {x:α} (h:x∈L.drop k):∃ i,k<=i/\L[i]? = some x:=by
 obtain ⟨i,hi⟩:=List.getElem?_of_mem h;rw [List.getElem?_drop] at hi;exact ⟨k+i,by omega,hi⟩
theorem Kkn (rc:List Jc->Int->Int->Int->Option (List Jc)) (P R Q:List Jc) (x:Jc) (hR:R.Pairwise leL) (hL:(P++[x]++R++Q).length<=1048576) :
  ∃ M,Jq rc (P++[x]++R++Q) (P.length:Int) ((P.length+1:Nat):Int) ((P.length+1+R.length:Nat):Int)=some (P++M++Q)/\M.Perm ([x]++R)/\M.Pairwise leL:=by
 have hlen:=hL;simp only [List.length_append,List.length_cons,List.length_nil,Nat.zero_add] at hlen;have gx:(P++[x]++R++Q)[P.length]? = some x:=by simp
 haveI:DecidablePred fun h:Nat=>∃ y,(P++[x]++R++Q)[h]? = some y/\ltL y x:=fun _=>Classical.propDecidable _
 have hN:(P++[x]++R++Q).length=P.length+1+R.length+Q.length:=by simp; omega
 obtain ⟨s,s1,s2,s3,s4,s5⟩:=Jrt (step:=Qt (P++[x]++R++Q) (P.length:Int)) (fun h:Nat=>∃ y,(P++[x]++R++Q)[h]? = some y/\ltL y x) (P.length+1) (P.length+1+R.length)
  (fun h k h1 h2 h3 ⟨y,hy,hyx⟩=>by
   have e1:=gR P [x] R Q (i:=h - (P.length+1)) (by omega);have e2:=gR P [x] R Q (i:=k - (P.length+1)) (by omega);simp only [List.length_cons,List.length_nil,Nat.zero_add] at e1 e2;rw [show P.length+1+(h - (P.length+1))=h by omega] at e1;rw [show P.length+1+(k - (P.length+1))=k by omega,hy] at e2;have hz:R[h - (P.length+1)]? = some R[h - (P.length+1)]:=List.getElem?_eq_getElem (by omega);exact ⟨_,e1.trans hz,Jtz (Nc hR (by omega) hz e2.symm) hyx⟩)
  (fun i j h1 h2 h3=>by
   have hy:(P++[x]++R++Q)[(i+j) / 2]? = some (P++[x]++R++Q)[(i+j) / 2]:=List.getElem?_eq_getElem (by omega);obtain ⟨r,hr,hd⟩:=Jr3 (P++[x]++R++Q)[(i+j) / 2] x;simp only [Qt,Nq,decide_eq_true (show (i:Int)<(j:Int) by omega),cond_true,Kg7 (show i<1048577 by omega) (show j<1048577 by omega),xix (show (i+j) / 2<(P++[x]++R++Q).length by omega),xix (show P.length<(P++[x]++R++Q).length by omega),Option.bind_some,xld rfl hy,xld rfl gx,hr,hd,Jw4 (show (i+j) / 2<1048577 by omega)]
   by_cases hlt:ltL (P++[x]++R++Q)[(i+j) / 2] x
   ·rw [decide_eq_true hlt,cond_true,if_pos ⟨_,hy,hlt⟩]
   ·rw [decide_eq_false hlt,cond_false,if_neg (fun ⟨y,hy',h⟩=>by rw [hy] at hy'; cases hy'; exact hlt h)])
  (fun i=>by simp [Qt]) (by omega)
 have hRs:R=R.take (s - (P.length+1))++R.drop (s - (P.length+1)):=(List.take_append_drop _ _).symm;have t1:(R.take (s - (P.length+1))).length=s - (P.length+1):=by simp; omega
 have hsh:=Kk8 (P++[x]++R++Q) hL x s (R.take (s - (P.length+1))) P (R.drop (s - (P.length+1))++Q) (by rw [t1]; omega) (by rw [<- List.append_assoc,<- hRs]; simp);rw [<- List.append_assoc (R.take _),<- hRs] at hsh;refine ⟨R.take (s - (P.length+1))++x::R.drop (s - (P.length+1)), ?_, ?_, ?_⟩
 ·unfold Jq;rw [Jfp (show P.length+1<4194304 by omega) (by omega),decide_eq_true (show ((P.length+1 - P.length:Nat):Int)=1 by omega),cond_true,s3];simp only [onInl,Vs,Option.bind_some];rw [show P++[x]++R++Q=P++x::(R++Q) by simp] at hsh ⊢;rw [hsh];simp [Vs]
 ·refine List.perm_middle.trans ?_;rw [<- hRs]; rfl
 ·have hR':=hR;rw [hRs,List.pairwise_append] at hR';obtain ⟨q1,q2,q3⟩:=hR';have at_:∀ {i:Nat} {y:Jc},R[i]? = some y->(P++[x]++R++Q)[P.length+1+i]? = some y:=fun {i} {y} hy=>by
   have:=gR P [x] R Q (i:=i) (List.getElem?_eq_some_iff.1 hy).1;simp only [List.length_cons,List.length_nil,Nat.zero_add] at this;rw [this,hy]
  rw [List.pairwise_append,List.pairwise_cons];refine ⟨q1,⟨fun y hy=>?_,q2⟩,fun y hy z hz=>?_⟩
  ·obtain ⟨i,i1,i2⟩:=Jfc hy;have hil:=(List.getElem?_eq_some_iff.1 i2).1;exact fun hlt=>s5 (P.length+1+i) (by omega) (by omega) ⟨y,at_ i2,hlt⟩
  ·rcases List.mem_cons.1 hz with rfl|hz
   ·obtain ⟨i,i1,i2⟩:=Jfe hy;obtain ⟨y',hy',hlt⟩:=s4 (P.length+1+i) (by omega) (by omega);rw [at_ i2] at hy'; cases hy';exact Jbz hlt
   ·exact q3 y hy z hz
theorem Klo (rc:List Jc->Int->Int->Int->Option (List Jc)) (P L Q:List Jc) (x:Jc) (hLs:L.Pairwise leL) (hl1:L.length≠1) (hL:(P++L++[x]++Q).length<=1048576) :
  ∃ M,Jq rc (P++L++[x]++Q) (P.length:Int) ((P.length+L.length:Nat):Int) ((P.length+L.length+1:Nat):Int)=some (P++M++Q)/\M.Perm (L++[x])/\M.Pairwise leL:=by
 have hlen:=hL;simp only [List.length_append,List.length_cons,List.length_nil,Nat.zero_add] at hlen;have gx:(P++L++[x]++Q)[P.length+L.length]? = some x:=by simp
 haveI:DecidablePred fun h:Nat=>∃ y,(P++L++[x]++Q)[h]? = some y/\leL y x:=fun _=>Classical.propDecidable _
 have hN:(P++L++[x]++Q).length=P.length+L.length+1+Q.length:=by simp; omega
 obtain ⟨s,s1,s2,s3,s4,s5⟩:=Jrt (step:=Qv (P++L++[x]++Q) ((P.length+L.length:Nat):Int)) (fun h:Nat=>∃ y,(P++L++[x]++Q)[h]? = some y/\leL y x) P.length (P.length+L.length)
  (fun h k h1 h2 h3 ⟨y,hy,hyx⟩=>by
   have e1:=gL P L [x] Q (i:=h - P.length) (by omega);have e2:=gL P L [x] Q (i:=k - P.length) (by omega);rw [show P.length+(h - P.length)=h by omega] at e1;rw [show P.length+(k - P.length)=k by omega,hy] at e2;have hz:L[h - P.length]? = some L[h - P.length]:=List.getElem?_eq_getElem (by omega);exact ⟨_,e1.trans hz,Mp (Nc hLs (by omega) hz e2.symm) hyx⟩)
  (fun i j h1 h2 h3=>by
   have hy:(P++L++[x]++Q)[(i+j) / 2]? = some (P++L++[x]++Q)[(i+j) / 2]:=List.getElem?_eq_getElem (by omega);obtain ⟨r,hr,hd⟩:=Jr3 x (P++L++[x]++Q)[(i+j) / 2];simp only [Qv,Nq,decide_eq_true (show (i:Int)<(j:Int) by omega),cond_true,Kg7 (show i<1048577 by omega) (show j<1048577 by omega),xix (show (i+j) / 2<(P++L++[x]++Q).length by omega),xix (show P.length+L.length<(P++L++[x]++Q).length by omega),Option.bind_some,xld rfl hy,xld rfl gx,hr,hd,Jw4 (show (i+j) / 2<1048577 by omega)]
   by_cases hlt:ltL x (P++L++[x]++Q)[(i+j) / 2]
   ·rw [decide_eq_true hlt,Bool.not_true,cond_false,if_neg (fun ⟨y,hy',h⟩=>by rw [hy] at hy'; cases hy'; exact h hlt)]
   ·rw [decide_eq_false hlt,Bool.not_false,cond_true,if_pos ⟨_,hy,hlt⟩])
  (fun i=>by simp [Qv]) (by omega)
 have hRs:L=L.take (s - P.length)++L.drop (s - P.length):=(List.take_append_drop _ _).symm;have t1:(P++L.take (s - P.length)).length=s:=by simp; omega
 have t2:(L.drop (s - P.length)).length=P.length+L.length - s:=by simp; omega
 have hsh:=Klt (P++L++[x]++Q) hL x (P++L.take (s - P.length)) _ (L.drop (s - P.length)) Q rfl (by rw [List.append_assoc P,<- hRs]; simp);rw [t1,t2,show s+(P.length+L.length - s)=P.length+L.length by omega,List.append_assoc P (L.take _) (L.drop _),<- hRs] at hsh;refine ⟨L.take (s - P.length)++x::L.drop (s - P.length), ?_, ?_, ?_⟩
 ·unfold Jq;rw [Jfp (show P.length+L.length<4194304 by omega) (by omega),decide_eq_false (show ¬ (((P.length+L.length - P.length:Nat):Int)=1) by omega),cond_false,
   Jfp (show P.length+L.length+1<4194304 by omega) (by omega),decide_eq_true (show ((P.length+L.length+1 - (P.length+L.length):Nat):Int)=1 by omega),cond_true,s3]
  simp only [onInl,Vs,Option.bind_some];rw [show P++L++[x]++Q=P++L++x::Q by simp] at hsh ⊢;rw [hsh];simp [Vs]
 ·refine List.perm_middle.trans ?_;rw [<- hRs];have:=@List.perm_append_comm _ [x] L
  simpa using this
 ·have hR':=hLs;rw [hRs,List.pairwise_append] at hR';obtain ⟨q1,q2,q3⟩:=hR';have at_:∀ {i:Nat} {y:Jc},L[i]? = some y->(P++L++[x]++Q)[P.length+i]? = some y:=fun {i} {y} hy=>by
   rw [gL P L [x] Q (i:=i) (List.getElem?_eq_some_iff.1 hy).1,hy]
  rw [List.pairwise_append,List.pairwise_cons];refine ⟨q1,⟨fun y hy=>?_,q2⟩,fun y hy z hz=>?_⟩
  ·obtain ⟨i,i1,i2⟩:=Jfc hy;have hil:=(List.getElem?_eq_some_iff.1 i2).1;have:=s5 (P.length+i) (by omega) (by omega);exact Jbz (Classical.not_not.1 fun hlt=>this ⟨y,at_ i2,hlt⟩)
  ·rcases List.mem_cons.1 hz with rfl|hz
   ·obtain ⟨i,i1,i2⟩:=Jfe hy;obtain ⟨y',hy',hlt⟩:=s4 (P.length+i) (by omega) (by omega);rw [at_ i2] at hy'; cases hy';exact hlt
   ·exact q3 y hy z hz
theorem Jpq (D:List Jc) (hD:D.length<=1048576) (a m b:Nat) (h1:a<=m) (h2:m<=b) (h3:b<=D.length) (hm0:0<m)
  (hLs:∀ h k y z,a<=h->h<=k->k<m->D[h]? = some y->D[k]? = some z->leL y z) (hRs:∀ h k y z,m<=h->h<=k->k<b->D[h]? = some y->D[k]? = some z->leL y z)
  (st0 r0:Nat) (h4:a<=st0) (h5:st0<=r0) (h6:r0<=m) (hp:∀ c,st0<=c->c<r0->m<=(a+b) / 2+m - 1 - c/\(a+b) / 2+m - 1 - c<b) :
  ∃ s,st0<=s/\s<=r0/\Js (Ku D (a:Int) (m:Int) (b:Int)) ((st0:Int),(r0:Int))=some (.inl (s:Int))/\(∀ c,st0<=c->c<s->∃ y z,D[(a+b) / 2+m - 1 - c]? = some y/\D[c]? = some z/\leL z y) /\
   ∀ c,s<=c->c<r0->∀ y z,D[(a+b) / 2+m - 1 - c]? = some y->D[c]? = some z->ltL y z:=by
 haveI:DecidablePred fun c:Nat=>∃ y z,D[(a+b) / 2+m - 1 - c]? = some y/\D[c]? = some z/\leL z y:=fun _=>Classical.propDecidable _
 have gt:∀ i,i<D.length->∃ y,D[i]? = some y:=fun i hi=>⟨D[i],List.getElem?_eq_getElem hi⟩
 obtain ⟨s,s1,s2,s3,s4,s5⟩:=Jrt (step:=Ku D (a:Int) (m:Int) (b:Int)) (fun c:Nat=>∃ y z,D[(a+b) / 2+m - 1 - c]? = some y/\D[c]? = some z/\leL z y) st0 r0
  (fun h k q1 q2 q3 ⟨y,z,hy,hz,hzy⟩=>by
   have p1:=hp h q1 (by omega); have p2:=hp k (by omega) q3;obtain ⟨y',hy'⟩:=gt ((a+b) / 2+m - 1 - h) (by omega);obtain ⟨z',hz'⟩:=gt h (by omega);exact ⟨y',z',hy',hz',Mp (hLs h k z' z (by omega) q2 (by omega) hz' hz) (Mp hzy (hRs _ _ y y' p2.1 (by omega) p1.2 hy hy'))⟩)
  (fun i j q1 q2 q3=>by
   have p1:=hp ((i+j) / 2) (by omega) (by omega);obtain ⟨y,hy⟩:=gt ((a+b) / 2+m - 1 - (i+j) / 2) (by omega);obtain ⟨z,hz⟩:=gt ((i+j) / 2) (by omega);obtain ⟨r,hr,hd⟩:=Jr3 y z;simp only [Ku,Nq,decide_eq_true (show (i:Int)<(j:Int) by omega),cond_true,Kg7 (show i<1048577 by omega) (show j<1048577 by omega),Kg7 (show a<1048577 by omega) (show b<1048577 by omega),Jx3 (show (a+b) / 2<1048577 by omega) (show m<1048577 by omega),
    Kj1 (show (a+b) / 2+m<4194304 by omega) (show 1<=(a+b) / 2+m by omega),Jfp (show (a+b) / 2+m - 1<4194304 by omega) (show (i+j) / 2<=(a+b) / 2+m - 1 by omega),xix (show (a+b) / 2+m - 1 - (i+j) / 2<D.length by omega),xix (show (i+j) / 2<D.length by omega),Option.bind_some,xld rfl hy,xld rfl hz,hr,hd,Jw4 (show (i+j) / 2<1048577 by omega)]
   by_cases hlt:ltL y z
   ·rw [decide_eq_true hlt,Bool.not_true,cond_false,if_neg (fun ⟨y',z',hy',hz',h⟩=>by rw [hy] at hy'; rw [hz] at hz'; cases hy'; cases hz'; exact h hlt)]
   ·rw [decide_eq_false hlt,Bool.not_false,cond_true,if_pos ⟨y,z,hy,hz,hlt⟩])
  (fun i=>by simp [Ku]) h5
 exact ⟨s,s1,s2,s3,s4,fun c q1 q2 y z hy hz=>Classical.not_not.1 fun hn=>s5 c q1 q2 ⟨y,z,hy,hz,hn⟩⟩
theorem Klb (rc:List Jc->Int->Int->Int->Option (List Jc)) (P L R Q:List Jc) (a m b:Nat) (ha:a=P.length) (hm:m=a+L.length) (hb:b=m+R.length) (hL2:2<=L.length) (hR2:2<=R.length) (hLs:L.Pairwise leL) (hRs:R.Pairwise leL) (hL:(P++L++R++Q).length<=1048576)
  (ih:∀ P' L' R' Q':List Jc,L'.length+R'.length<L.length+R.length->0<L'.length->0<R'.length->L'.Pairwise leL->R'.Pairwise leL->(P'++L'++R'++Q').length<=1048576 ->
   ∃ M,rc (P'++L'++R'++Q') (P'.length:Int) ((P'.length+L'.length:Nat):Int) ((P'.length+L'.length+R'.length:Nat):Int)=some (P'++M++Q')/\M.Perm (L'++R')/\M.Pairwise leL) :
  ∃ M,Jq rc (P++L++R++Q) (a:Int) (m:Int) (b:Int)=some (P++M++Q)/\M.Perm (L++R)/\M.Pairwise leL:=by
 have hlen:=hL;simp only [List.length_append] at hlen;have atL:∀ i,i<L.length->(P++L++R++Q)[a+i]? = L[i]?:=fun i hi=>by rw [ha]; exact gL P L R Q hi
 have atR:∀ i,i<R.length->(P++L++R++Q)[m+i]? = R[i]?:=fun i hi=>by rw [hm,ha]; exact gR P L R Q hi
 have hDl:(P++L++R++Q).length=b+Q.length:=by simp; omega
 have sL:∀ h k y z,a<=h->h<=k->k<m->(P++L++R++Q)[h]? = some y->(P++L++R++Q)[k]? = some z->leL y z:=fun h k y z q1 q2 q3 hy hz=>by
  have e1:=atL (h - a) (by omega); have e2:=atL (k - a) (by omega);rw [show a+(h - a)=h by omega,hy] at e1; rw [show a+(k - a)=k by omega,hz] at e2;exact Nc hLs (by omega) e1.symm e2.symm
 have sR:∀ h k y z,m<=h->h<=k->k<b->(P++L++R++Q)[h]? = some y->(P++L++R++Q)[k]? = some z->leL y z:=fun h k y z q1 q2 q3 hy hz=>by
  have e1:=atR (h - m) (by omega); have e2:=atR (k - m) (by omega);rw [show m+(h - m)=h by omega,hy] at e1; rw [show m+(k - m)=k by omega,hz] at e2;exact Nc hRs (by omega) e1.symm e2.symm
 -- the start of the search, and its end
 obtain ⟨st0,r0,hst,s,g0,g1,g2,g3,g4,g5,g6⟩:∃ st0 r0:Nat,(bif decide ((((a+b) / 2:Nat):Int)<(m:Int)) then some (.inl (w64 ((w64 ((((a+b) / 2:Nat):Int)+(m:Int))) - (b:Int)),(((a+b) / 2:Nat):Int))) else some (.inl ((a:Int),(m:Int))):Option ((Int×Int)⊕List Jc))=some (.inl ((st0:Int),(r0:Int))) /\
   ∃ s:Nat,Js (Ku (P++L++R++Q) (a:Int) (m:Int) (b:Int)) ((st0:Int),(r0:Int))=some (.inl (s:Int))/\a<=s/\s<=m/\s<=(a+b) / 2/\(a+b) / 2+m - s<=b /\
    (∀ y z,a<s->(a+b) / 2+m - s<b->(P++L++R++Q)[s - 1]? = some y->(P++L++R++Q)[(a+b) / 2+m - s]? = some z->leL y z) /\
    (∀ y z,s<m->m<(a+b) / 2+m - s->(P++L++R++Q)[(a+b) / 2+m - s - 1]? = some y->(P++L++R++Q)[s]? = some z->ltL y z):=by
  by_cases hc:(a+b) / 2<m
  ·obtain ⟨s,s1,s2,s3,s4,s5⟩:=Jpq (P++L++R++Q) hL a m b (by omega) (by omega) (by omega) (by omega) sL sR ((a+b) / 2+m - b) ((a+b) / 2) (by omega) (by omega) (by omega) (fun c q1 q2=>by omega);refine ⟨(a+b) / 2+m - b,(a+b) / 2, ?_,s,s3,by omega,by omega,by omega,by omega,fun y z q1 q2 hy hz=>?_,fun y z q1 q2 hy hz=>?_⟩
   ·rw [decide_eq_true (show (((a+b) / 2:Nat):Int)<(m:Int) by omega),cond_true,Jx3 (by omega) (by omega),Jfp (by omega) (by omega)]
   ·obtain ⟨y',z',k1,k2,k3⟩:=s4 (s - 1) (by omega) (by omega);rw [show (a+b) / 2+m - 1 - (s - 1)=(a+b) / 2+m - s by omega,hz] at k1;rw [hy] at k2; cases k1; cases k2; exact k3
   ·exact s5 s (Nat.le_refl _) (by omega) y z (by rw [show (a+b) / 2+m - 1 - s=(a+b) / 2+m - s - 1 by omega]; exact hy) hz
  ·obtain ⟨s,s1,s2,s3,s4,s5⟩:=Jpq (P++L++R++Q) hL a m b (by omega) (by omega) (by omega) (by omega) sL sR a m (by omega) (by omega) (by omega) (fun c q1 q2=>by omega);refine ⟨a,m, ?_,s,s3,by omega,by omega,by omega,by omega,fun y z q1 q2 hy hz=>?_,fun y z q1 q2 hy hz=>?_⟩
   ·rw [decide_eq_false (show ¬ (((a+b) / 2:Nat):Int)<(m:Int) by omega),cond_false]
   ·obtain ⟨y',z',k1,k2,k3⟩:=s4 (s - 1) (by omega) (by omega);rw [show (a+b) / 2+m - 1 - (s - 1)=(a+b) / 2+m - s by omega,hz] at k1;rw [hy] at k2; cases k1; cases k2; exact k3
   ·exact s5 s (Nat.le_refl _) (by omega) y z (by rw [show (a+b) / 2+m - 1 - s=(a+b) / 2+m - s - 1 by omega]; exact hy) hz
 obtain ⟨e,he⟩:∃ e,e=(a+b) / 2+m - s:=⟨_,rfl⟩
 rw [<- he] at g4 g5 g6
 -- the four parts
 have hLp:L=L.take (s - a)++L.drop (s - a):=(List.take_append_drop _ _).symm;have hRp:R=R.take (e - m)++R.drop (e - m):=(List.take_append_drop _ _).symm;obtain ⟨L1,hL1⟩:∃ L1,L1=L.take (s - a):=⟨_,rfl⟩
 obtain ⟨L2,hL2'⟩:∃ L2,L2=L.drop (s - a):=⟨_,rfl⟩
 obtain ⟨R1,hR1⟩:∃ R1,R1=R.take (e - m):=⟨_,rfl⟩
 obtain ⟨R2,hR2'⟩:∃ R2,R2=R.drop (e - m):=⟨_,rfl⟩
 have l1:L1.length=s - a:=by rw [hL1]; simp; omega
 have l2:L2.length=m - s:=by rw [hL2']; simp; omega
 have r1:R1.length=e - m:=by rw [hR1]; simp; omega
 have r2:R2.length=b - e:=by rw [hR2']; simp; omega
 rw [<- hL1,<- hL2'] at hLp;rw [<- hR1,<- hR2'] at hRp;have mL1:∀ x∈L1,∃ i,i<s - a/\L[i]? = some x:=fun x hx=>Jfe (hL1▸hx);have mL2:∀ x∈L2,∃ i,s - a<=i/\L[i]? = some x:=fun x hx=>Jfc (hL2'▸hx);have mR1:∀ x∈R1,∃ i,i<e - m/\R[i]? = some x:=fun x hx=>Jfe (hR1▸hx);have mR2:∀ x∈R2,∃ i,e - m<=i/\R[i]? = some x:=fun x hx=>Jfc (hR2'▸hx);have pL:=hLs; rw [hLp,List.pairwise_append] at pL;have pR:=hRs; rw [hRp,List.pairwise_append] at pR;have hQl:Q.length<=1048576 - b:=by omega
 -- everything in the left half is before everything in the right half
 have cross:∀ x,(x∈L1\/x∈R1)->∀ y,(y∈L2\/y∈R2)->leL x y:=by
  intro x hx y hy;rcases hx with hx|hx <;> rcases hy with hy|hy
  ·exact pL.2.2 x hx y hy
  ·obtain ⟨i,i1,i2⟩:=mL1 x hx;obtain ⟨j,j1,j2⟩:=mR2 y hy;have hjl:=(List.getElem?_eq_some_iff.1 j2).1;have u1:L[s - 1 - a]? = some L[s - 1 - a]:=List.getElem?_eq_getElem (by omega);have u2:R[e - m]? = some R[e - m]:=List.getElem?_eq_getElem (by omega);have k1:=atL (s - 1 - a) (by omega); have k2:=atR (e - m) (by omega);rw [show a+(s - 1 - a)=s - 1 by omega,u1] at k1;rw [show m+(e - m)=e by omega,u2] at k2;exact Mp (Nc hLs (by omega) i2 u1) (Mp (g5 _ _ (by omega) (by omega) k1 k2) (Nc hRs j1 u2 j2))
  ·obtain ⟨i,i1,i2⟩:=mR1 x hx;obtain ⟨j,j1,j2⟩:=mL2 y hy;have hjl:=(List.getElem?_eq_some_iff.1 j2).1;have u1:R[e - 1 - m]? = some R[e - 1 - m]:=List.getElem?_eq_getElem (by omega);have u2:L[s - a]? = some L[s - a]:=List.getElem?_eq_getElem (by omega);have k1:=atR (e - 1 - m) (by omega); have k2:=atL (s - a) (by omega);rw [show m+(e - 1 - m)=e - 1 by omega,u1] at k1;rw [show a+(s - a)=s by omega,u2] at k2;exact Mp (Nc hRs (by omega) i2 u1) (Mp (Jbz (g6 _ _ (by omega) (by omega) k1 k2)) (Nc hLs j1 u2 j2))
  ·exact pR.2.2 x hx y hy
 -- the left half
 obtain ⟨M1,m1,m2,m3⟩:∃ M1,(bif (decide ((a:Int)<(s:Int))&&decide ((s:Int)<(((a+b) / 2:Nat):Int))) then ((rc (P++L1++R1++(L2++R2++Q)) (a:Int) (s:Int) (((a+b) / 2:Nat):Int)).bind fun r=>(some (.inl r):Option (List Jc⊕List Jc))) else some (.inl (P++L1++R1++(L2++R2++Q))))=some (.inl (P++M1++(L2++R2++Q)))/\M1.Perm (L1++R1)/\M1.Pairwise leL:=by
  by_cases hc:a<s/\s<(a+b) / 2
  ·obtain ⟨M,k1,k2,k3⟩:=ih P L1 R1 (L2++R2++Q) (by omega) (by omega) (by omega) pL.1 pR.1 (by simp; omega);rw [<- ha,l1,r1,show a+(s - a)=s by omega,show s+(e - m)=(a+b) / 2 by omega] at k1;refine ⟨M, ?_,k2,k3⟩;rw [decide_eq_true (show (a:Int)<(s:Int) by omega),decide_eq_true (show (s:Int)<(((a+b) / 2:Nat):Int) by omega),k1]
   rfl
  ·refine ⟨L1++R1, ?_,List.Perm.refl _, ?_⟩
   ·have:(decide ((a:Int)<(s:Int))&&decide ((s:Int)<(((a+b) / 2:Nat):Int)))=false:=by
     rw [Bool.and_eq_false_iff,decide_eq_false_iff_not,decide_eq_false_iff_not]; omega
    rw [this,cond_false,List.append_assoc P]
   ·rw [List.pairwise_append];refine ⟨pL.1,pR.1,fun x hx y hy=>?_⟩;have:=List.length_pos_of_mem hx; have:=List.length_pos_of_mem hy;omega
 have hM1:M1.length=(a+b) / 2 - a:=by rw [m2.length_eq]; simp; omega
 -- the right half
 obtain ⟨M2,n1,n2,n3⟩:∃ M2,(bif (decide ((((a+b) / 2:Nat):Int)<(e:Int))&&decide ((e:Int)<(b:Int))) then ((rc (P++M1++(L2++R2++Q)) (((a+b) / 2:Nat):Int) (e:Int) (b:Int)).bind fun r=>some r) else some (P++M1++(L2++R2++Q)))=some (P++(M1++M2)++Q)/\M2.Perm (L2++R2)/\M2.Pairwise leL:=by
  by_cases hc:(a+b) / 2<e/\e<b
  ·obtain ⟨M,k1,k2,k3⟩:=ih (P++M1) L2 R2 Q (by omega) (by omega) (by omega) pL.2.1 pR.2.1 (by simp; omega);rw [show (P++M1).length=(a+b) / 2 by simp; omega,l2,r2,show (a+b) / 2+(m - s)=e by omega,show e+(b - e)=b by omega] at k1;refine ⟨M, ?_,k2,k3⟩;rw [decide_eq_true (show (((a+b) / 2:Nat):Int)<(e:Int) by omega),decide_eq_true (show (e:Int)<(b:Int) by omega),show P++M1++(L2++R2++Q)=P++M1++L2++R2++Q by simp,k1];simp
  ·refine ⟨L2++R2, ?_,List.Perm.refl _, ?_⟩
   ·have:(decide ((((a+b) / 2:Nat):Int)<(e:Int))&&decide ((e:Int)<(b:Int)))=false:=by
     rw [Bool.and_eq_false_iff,decide_eq_false_iff_not,decide_eq_false_iff_not]; omega
    rw [this,cond_false];simp
   ·rw [List.pairwise_append];refine ⟨pL.2.1,pR.2.1,fun x hx y hy=>?_⟩;have:=List.length_pos_of_mem hx; have:=List.length_pos_of_mem hy;omega
 refine ⟨M1++M2, ?_, ?_, ?_⟩
 ·unfold Jq;rw [Jfp (show m<4194304 by omega) (by omega),decide_eq_false (show ¬ (((m - a:Nat):Int)=1) by omega),cond_false,Jfp (show b<4194304 by omega) (by omega),decide_eq_false (show ¬ (((b - m:Nat):Int)=1) by omega),cond_false];simp only [Kg7 (show a<1048577 by omega) (show b<1048577 by omega)];rw [hst];simp only [onInl,Vs,Option.bind_some];rw [g0];simp only [onInl,Vs,Option.bind_some,Jx3 (show (a+b) / 2<1048577 by omega) (show m<1048577 by omega),Jfp (show (a+b) / 2+m<4194304 by omega) (show s<=(a+b) / 2+m by omega),<- he];have hrot:(bif (decide ((s:Int)<(m:Int))&&decide ((m:Int)<(e:Int))) then ((Km (P++L++R++Q) (s:Int) (m:Int) (e:Int)).bind fun r=>(some (.inl r):Option (List Jc⊕List Jc))) else some (.inl (P++L++R++Q)))=some (.inl (P++L1++R1++(L2++R2++Q))):=by
   have hD:P++L++R++Q=(P++L1)++L2++R1++(R2++Q):=by
    rw [hLp,hRp]; simp
   by_cases hc:s<m/\m<e
   ·have:=Kbu (P++L1) L2 R1 (R2++Q) (by rw [<- hD]; exact hL) (by omega) (by omega);rw [<- hD,show (P++L1).length=s by simp; omega,l2,r1,show s+(m - s)=m by omega,show m+(e - m)=e by omega] at this;rw [decide_eq_true (show (s:Int)<(m:Int) by omega),decide_eq_true (show (m:Int)<(e:Int) by omega),this];simp
   ·have:(decide ((s:Int)<(m:Int))&&decide ((m:Int)<(e:Int)))=false:=by
     rw [Bool.and_eq_false_iff,decide_eq_false_iff_not,decide_eq_false_iff_not]; omega
    rw [this,cond_false,hD]
    by_cases hs:s<m
    ·have:R1=[]:=List.eq_nil_of_length_eq_zero (by omega);rw [this]; simp
    ·have:L2=[]:=List.eq_nil_of_length_eq_zero (by omega);rw [this]; simp
  rw [hrot];simp only [onInl,Vs,Option.bind_some];rw [m1];simp only [onInl,Vs,Option.bind_some];exact n1
 ·have h1:(M1++M2).Perm ((L1++R1)++(L2++R2)):=m2.append n2;refine h1.trans ?_;rw [hLp,hRp];have h2:(R1++(L2++R2)).Perm (L2++(R1++R2)):=by
   have:=(@List.perm_append_comm _ R1 L2).append_right R2
   simpa using this
  have:=h2.append_left L1
  simpa using this
 ·rw [List.pairwise_append];refine ⟨m3,n3,fun x hx y hy=>cross x ?_ y ?_⟩
  ·exact List.mem_append.1 (m2.subset hx)
  ·exact List.mem_append.1 (n2.subset hy)
theorem Jxv : ∀ (n:Nat) (P L R Q:List Jc),L.length+R.length<=n->0<L.length->0<R.length->L.Pairwise leL->R.Pairwise leL->(P++L++R++Q).length<=1048576 ->
  ∃ M,Kc n (P++L++R++Q) (P.length:Int) ((P.length+L.length:Nat):Int) ((P.length+L.length+R.length:Nat):Int)=some (P++M++Q)/\M.Perm (L++R)/\M.Pairwise leL:=by
 intro n;induction n with
 | zero=>intro P L R Q h h1 h2; omega
 | succ n ih =>
  intro P L R Q h h1 h2 hLs hRs hL;rw [Kdi]
  by_cases c1:L.length=1
  ·obtain ⟨x,rfl⟩:=List.length_eq_one_iff.1 c1;exact Kkn _ P R Q x hRs hL
  ·by_cases c2:R.length=1
   ·obtain ⟨x,rfl⟩:=List.length_eq_one_iff.1 c2;exact Klo _ P L Q x hLs c1 hL
   ·exact Klb _ P L R Q _ _ _ rfl rfl rfl (by omega) (by omega) hLs hRs hL (fun P' L' R' Q' q=>ih P' L' R' Q' (by omega))
theorem Jue (P L R Q:List Jc) (h1:0<L.length) (h2:0<R.length) (hLs:L.Pairwise leL) (hRs:R.Pairwise leL) (hL:(P++L++R++Q).length<=1048576) :
  ∃ M,Qg (P++L++R++Q) (P.length:Int) ((P.length+L.length:Nat):Int) ((P.length+L.length+R.length:Nat):Int)=some (P++M++Q)/\M.Perm (L++R)/\M.Pairwise leL:=by
 have:=Jxv (Ri+1) P L R Q (by simp only [List.length_append,Ri] at *; omega) h1 h2 hLs hRs hL;rw [Kdi] at this;exact this
theorem Jok (X:List Jc) (h:X.length<=39):∃ M,Ks X=some M/\M.Perm X/\M.Pairwise leL:=by
 unfold Ks Qp;rw [Nq]
 by_cases hn:X.length<20
 ·obtain ⟨M,m1,m2,m3⟩:=Jgp [] X [] (by simp; omega);simp only [List.nil_append,List.append_nil,List.length_nil,Nat.zero_add] at m1;refine ⟨M, ?_,m2,m3⟩;rw [Qk (r:=.inl (X,0)) (by simp only [Qm,decide_eq_false (show ¬ (20:Int)<=((X.length:Nat):Int) by omega),cond_false])];simp only [onInl,Vs,Option.bind_some];rw [show (0:Int)=((0:Nat):Int) from rfl,m1];simp only [Option.bind_some];rw [Qk (r:=.inl M) (by simp only [Ql,decide_eq_false (show ¬ (20:Int)<((X.length:Nat):Int) by omega),cond_false])]
  rfl
 ·have hX:X=X.take 20++X.drop 20:=(List.take_append_drop _ _).symm;have t1:(X.take 20).length=20:=by simp; omega
  have t2:(X.drop 20).length=X.length - 20:=by simp
  obtain ⟨A,a1,a2,a3⟩:=Jgp [] (X.take 20) (X.drop 20) (by rw [List.nil_append,<- hX]; omega);simp only [List.nil_append,List.length_nil,Nat.zero_add,t1,<- hX] at a1;have hA:A.length=20:=by rw [a2.length_eq,t1]
  obtain ⟨B,b1,b2,b3⟩:=Jgp A (X.drop 20) [] (by simp [hA]; omega);simp only [List.append_nil,hA,t2] at b1;have hB:B.length=X.length - 20:=by rw [b2.length_eq,t2]
  have hAB:(A++B).Perm X:=by
   have:=a2.append b2
   rwa [<- hX] at this
  rw [show 20+(X.length - 20)=X.length by omega] at b1;have l0:Js (Qm ((X.length:Nat):Int)) (0,20,X)=some (.inl (A++X.drop 20,20)):=by
   have w40:w64 ((20:Int)+20)=40:=by rw [Vc (by omega) (by omega)]; rfl
   rw [Vz (s':=((20:Int),(40:Int),A++X.drop 20)) (by
     simp only [Qm,decide_eq_true (show (20:Int)<=((X.length:Nat):Int) by omega),cond_true];rw [show (0:Int)=((0:Nat):Int) from rfl,show (20:Int)=((20:Nat):Int) from rfl,a1];simp only [Option.bind_some];rw [show ((20:Nat):Int)=(20:Int) from rfl,w40]),
    Qk (r:=.inl (A++X.drop 20,20)) (by simp only [Qm,decide_eq_false (show ¬ (40:Int)<=((X.length:Nat):Int) by omega),cond_false])]
  rw [l0];simp only [onInl,Vs,Option.bind_some];rw [show (20:Int)=((20:Nat):Int) from rfl,b1];simp only [Option.bind_some]
  by_cases h20:X.length=20
  ·have hBn:B=[]:=List.eq_nil_of_length_eq_zero (by omega);subst hBn;simp only [List.append_nil] at hAB ⊢;refine ⟨A, ?_,hAB,a3⟩;rw [Qk (r:=.inl A) (by simp only [Ql,decide_eq_false (show ¬ ((20:Nat):Int)<((X.length:Nat):Int) by omega),cond_false])]
   rfl
  ·obtain ⟨M,m1,m2,m3⟩:=Jue [] A B [] (by omega) (by omega) a3 b3 (by simp; omega);simp only [List.nil_append,List.append_nil,List.length_nil,Nat.zero_add,hA,hB,show 20+(X.length - 20)=X.length by omega] at m1;refine ⟨M, ?_,m2.trans hAB,m3⟩;have w40:w64 (2 * ((20:Nat):Int))=40:=by rw [Vc (by omega) (by omega)]; rfl
   have w40':w64 (((20:Nat):Int) * 2)=40:=by rw [Vc (by omega) (by omega)]; rfl
   have w20:w64 ((0:Int)+((20:Nat):Int))=((20:Nat):Int):=by rw [Vc (by omega) (by omega)]; rfl
   rw [Vz (s':=((40:Int),M)) ?_,Qk (r:=.inl M) (by simp only [Ql,decide_eq_false (show ¬ (40:Int)<((X.length:Nat):Int) by omega),cond_false])]
   ·rfl
   ·simp only [Ql,decide_eq_true (show ((20:Nat):Int)<((X.length:Nat):Int) by omega),cond_true,w40,w40'];rw [Qk (r:=.inl (A++B,0)) (by simp only [Wd,decide_eq_false (show ¬ (40:Int)<=((X.length:Nat):Int) by omega),cond_false])];simp only [onInl,Vs,Option.bind_some,w20,decide_eq_true (show ((20:Nat):Int)<((X.length:Nat):Int) by omega),cond_true];rw [show (0:Int)=((0:Nat):Int) from rfl,m1]
    rfl
end PM
namespace PM
open Go Go.RowKit
def Kcd (k:Int) (s:Jb):Bool:=decide (k=1)||((decide (k=2)||decide (k=3))&&((decide (s.In=0)&&decide (s.Out=1))||(decide (s.In=1)&&decide (s.Out=0))))
theorem Jh0 (k:Int) (s:Jb):Dn k s=some (Kcd k s):=by
 unfold Dn Kcd
 by_cases h1:k=1
 ·simp [h1]
 ·by_cases h2:k=2
  ·simp [h2,onInl,Vs]
  ·by_cases h3:k=3
   ·simp [h3,onInl,Vs]
   ·simp [h1,h2,h3,onInl,Vs]
def atE (e:Ju) (s:Jb) (B:Int) (b:Jj):Int:=if s.In=1 then B+e.Length - b.Offset else B+b.Offset
def Kev (e:Ju) (s:Jb) (B:Int) (b:Jj):Jc:=⟨b.Id,atE e s B b⟩
def Ja7 (l:Ja) (i:Int):List Jj:=l.Balises.filter fun b=>decide (b.El=i)
def Xf (en:Int) (e:Ju) (s:Jb) (B:Int) (L:List Jj):List Jc:=(L.map (Kev e s B)).filter fun x=>decide (x.At<=en)
def Jar (l:Ja) (en B:Int) (s:Jb):List Jc :=
 match l.Elements[s.El.toNat]? with
 | some e=>if Kcd e.Kind s=true then Xf en e s B (Ja7 l s.El) else []
 | none=>[]
def Dr (l:Ja) (en:Int):Int->List Jb->List Jc
 | _,[]=>[]
 | B,s::w=>Jar l en B s++Dr l en (B+lenOf l s) w
theorem Jj4 (l:Ja) (en:Int) (s:Jb):∀ (w:List Jb) (B:Int),Dr l en B (w++[s])=Dr l en B w++Jar l en (B+Wg l w) s
 | [],B=>by simp [Dr,Wg]
 | t::w,B=>by
  simp only [List.cons_append,Dr,Jj4 l en s w,List.append_assoc,Wg];rw [Int.add_assoc]
theorem Jpk (en:Int) (e:Ju) (s:Jb) (B:Int) (L:List Jj):(Xf en e s B L).length<=L.length:=by
 unfold Xf;exact Nat.le_trans (List.length_filter_le _ _) (by simp)
theorem Kcn (l:Ja) (en B:Int) (s:Jb):(Jar l en B s).length<=l.Balises.length:=by
 unfold Jar;split
 ·split
  ·exact Nat.le_trans (Jpk _ _ _ _ _) (List.length_filter_le _ _)
  ·simp
 ·simp
theorem Jnw (l:Ja) (en:Int):∀ (w:List Jb) (B:Int),(Dr l en B w).length<=w.length * l.Balises.length
 | [],_=>by simp [Dr]
 | s::w,B=>by
  have:=Jnw l en w (B+lenOf l s);have:=Kcn l en B s;simp only [Dr,List.length_append,List.length_cons,Nat.succ_mul]; omega
theorem Jjf {l:Ja} {en B:Int} {s:Jb} {x:Jc} (h:x∈Jar l en B s):∃ e b,l.Elements[s.El.toNat]? = some e/\Kcd e.Kind s=true/\b∈l.Balises/\b.El=s.El/\x=Kev e s B b/\x.At<=en:=by
 unfold Jar at h;split at h
 ·rename_i e he;split at h
  ·rename_i hp;unfold Xf at h;obtain ⟨h1,h2⟩:=List.mem_filter.1 h;obtain ⟨b,hb,rfl⟩:=List.mem_map.1 h1;obtain ⟨h3,h4⟩:=List.mem_filter.1 hb;exact ⟨e,b,he,hp,h3,by simpa using h4,rfl,by simpa using h2⟩
  ·cases h
 ·cases h
theorem Jge {l:Ja} {en:Int} {x:Jc}:∀ {w:List Jb} {B:Int},x∈Dr l en B w->∃ i s,w[i]? = some s/\x∈Jar l en (B+Wg l (w.take i)) s
 | [],_,h=>by cases h
 | s::w,B,h=>by
  simp only [Dr] at h;rcases List.mem_append.1 h with h|h
  ·exact ⟨0,s,rfl,by simpa [Wg] using h⟩
  ·obtain ⟨i,t,h1,h2⟩:=Jge h;exact ⟨i+1,t,by simpa using h1,by simpa [Wg,Int.add_assoc] using h2⟩
theorem Jpl {α β:Type} {f:α->β}:∀ {l:List α},(l.map f).Nodup->∀ {x y:α},x∈l->y∈l->f x=f y->x=y
 | [],_,_,_,h,_,_=>by cases h
 | a::l,hn,x,y,hx,hy,e=>by
  simp only [List.map_cons,List.nodup_cons] at hn;rcases List.mem_cons.1 hx with hxa|hx1
  ·rcases List.mem_cons.1 hy with hya|hy1
   ·rw [hxa,hya]
   ·exact absurd (List.mem_map.2 ⟨y,hy1,by rw [<- e,hxa]⟩:f a∈l.map f) hn.1
  ·rcases List.mem_cons.1 hy with hya|hy1
   ·exact absurd (List.mem_map.2 ⟨x,hx1,by rw [e,hya]⟩:f a∈l.map f) hn.1
   ·exact Jpl hn.2 hx1 hy1 e
theorem Kca {l:Ja} (hd:(l.Balises.map (·.Id)).Nodup) (en B:Int) (s:Jb):((Jar l en B s).map (·.Id)).Nodup:=by
 unfold Jar;split
 ·rename_i e _;split
  ·have h1:(((Ja7 l s.El).map (Kev e s B)).map (·.Id))=(Ja7 l s.El).map (·.Id):=by
    rw [List.map_map]; rfl
   have h2:((Ja7 l s.El).map (·.Id)).Nodup:=hd.sublist ((List.filter_sublist).map _);rw [<- h1] at h2;exact h2.sublist ((List.filter_sublist).map _)
  ·exact List.nodup_nil
 ·exact List.nodup_nil
theorem Jn8 {l:Ja} (hd:(l.Balises.map (·.Id)).Nodup) (en:Int):∀ (w:List Jb) (B:Int),(w.map (·.El)).Nodup->((Dr l en B w).map (·.Id)).Nodup
 | [],_,_=>List.nodup_nil
 | s::w,B,hw=>by
  simp only [List.map_cons,List.nodup_cons] at hw;simp only [Dr,List.map_append];rw [List.nodup_append];refine ⟨Kca hd en B s,Jn8 hd en w _ hw.2,fun a ha b hb e=>?_⟩;subst e;obtain ⟨x,hx,rfl⟩:=List.mem_map.1 ha;obtain ⟨y,hy,hxy⟩:=List.mem_map.1 hb;obtain ⟨e1,b1,_,_,k1,k2,rfl,_⟩:=Jjf hx;obtain ⟨i,t,ht,hyt⟩:=Jge hy;obtain ⟨e2,b2,_,_,q1,q2,rfl,_⟩:=Jjf hyt;have:b2=b1:=Jpl hd q1 k1 hxy;subst this;exact hw.1 (List.mem_map.2 ⟨t,List.mem_of_getElem? ht,q2.symm.trans k2⟩)
theorem Yv.els {l:Ja} {way:List Jb} (h:Yv l way):(way.map (·.El)).Nodup:=by
 rw [List.nodup_iff_pairwise_ne,List.pairwise_map,List.pairwise_iff_getElem];intro i j hi hj hij e;have:=h.apart (List.getElem?_eq_getElem hi) (List.getElem?_eq_getElem hj) e;omega
theorem Jw8 {l:Ja} (hO:OkL l) {way:List Jb} (hv:Yv l way) (en B:Int):(Dr l en B way).length<=24:=by
 have h1:=Jn8 hO.bald en way B hv.els;have h2:((Dr l en B way).map (·.Id)).length<=(l.Balises.map (·.Id)).length:=Jq1 h1 fun x hx=>by
  obtain ⟨y,hy,rfl⟩:=List.mem_map.1 hx;obtain ⟨i,t,ht,hyt⟩:=Jge hy;obtain ⟨e2,b2,_,_,q1,q2,rfl,_⟩:=Jjf hyt;exact List.mem_map.2 ⟨b2,q1,rfl⟩
 have:=hO.counts;unfold Mb at this;simp only [List.length_map] at h2;omega
theorem Jle {l:Ja} (hO:OkL l) {way:List Jb} (hv:Yv l way) {i:Nat} {s:Jb} (hs:way[i]? = some s) :
  ∃ e,ixO l.Elements s.El=some e/\l.Elements[s.El.toNat]? = some e/\Vf l s.El=true/\lenOf l s=e.Length/\Jcj l e/\(Tj e.Kind s.In s.Out).2=true:=by
 obtain ⟨t,ht,hp,_⟩:=hv.2.2 i (Ue hs);rw [hs] at ht; cases ht;unfold Jcc at hp;cases hh:Vf l s.El with
 | false=>rw [hh] at hp; cases hp
 | true =>
  obtain ⟨x,h1,h2⟩:=Yb hh;rw [hh,h2] at hp;exact ⟨x,h1,h2,rfl,by simp [lenOf,hh,h2],hO.elem.1 x (List.mem_of_getElem? h2),hp⟩
theorem Jgg {l:Ja} (hO:OkL l) {way:List Jb} (hv:Yv l way):∀ i,i<=way.length->0<=Wg l (way.take i)/\Wg l (way.take i)<=(i:Int) * 1000000:=by
 intro i;induction i with
 | zero=>intro _; simp [Wg]
 | succ i ih =>
  intro hi;have hs:way[i]? = some way[i]:=List.getElem?_eq_getElem (by omega);obtain ⟨e,_,_,_,h4,h5,_⟩:=Jle hO hv hs;have:=ih (by omega);rw [Wa hs,Gr];have h6:=h5.2.1;simp only [Wg,Int.add_zero,h4];omega
theorem Ka2 (fk:Jj->Int) (m:List (Int×List Jj)) (k:Int):(Br k m).map (·.2)=Vt m k:=by
 induction m with
 | nil=>rfl
 | cons e es ih =>
  unfold Br Vt;simp only [List.find?_cons]
  by_cases h:k=e.1
  ·simp [h]
  ·simp only [h,if_false,decide_false];unfold Vt at ih;rw [<- ih,Option.map_map]; rfl
theorem Kh7 (fk:Jj->Int) (k:Int) (bs:List Jj):(Vt (grp fk bs) k).getD []=bs.filter fun b=>decide (fk b=k):=by
 suffices ∀ (bs:List Jj) (m:List (Int×List Jj)),(Vt (bs.foldl (fun m x=>Sr fk x m) m) k).getD []=(Vt m k).getD []++bs.filter fun b=>decide (fk b=k) by
  have:=this bs []
  simpa [grp,Kgx] using this
 intro bs;induction bs with
 | nil=>intro m; simp
 | cons b bs ih =>
  intro m;simp only [List.foldl_cons];rw [ih];have e:Vt (Sr fk b m) k=if k=fk b then some (((Vt m (fk b)).getD [])++[b]) else Vt m k:=by
   unfold Sr;rw [Kju,Ka2 fk]
  rw [e]
  by_cases h:k=fk b
  ·subst h;simp
  ·rw [if_neg h,List.filter_cons_of_neg (by simpa using fun q=>h q.symm)]
theorem Jps {k k':Int} (h:k'≠k):∀ m:List (Int×List Jj),Vt (Jln k m) k'=Vt m k'
 | []=>rfl
 | e::es=>by
  have ih:=Jps h es;unfold Jln
  by_cases hk:k=e.1
  ·rw [if_pos hk];unfold Vt;have:¬ k'=e.1:=fun q=>h (q.trans hk.symm);simp [List.find?_cons,this]
  ·rw [if_neg hk];unfold Vt at ih ⊢;simp only [List.find?_cons]
   by_cases h2:k'=e.1
   ·simp [h2]
   ·simp only [h2,decide_false];exact ih
theorem Jot (en B:Int) (m:List (Int×List Jj)) (s:Jb) (e:Ju) (L:List Jj) (hm:(Vt m s.El).getD []=L) (hLl:L.length<=1000) (hB:-2147483648<=B/\B<=2147483648) (he:0<=e.Length/\e.Length<=1000000) (hoff:∀ b∈L,0<=b.Offset/\b.Offset<=1000000) (acc:List Jc) (hacc:acc.length<=10000) :
  Js (Db en B m s e) (0,acc)=some (.inl (acc++Xf en e s B L)):=by
 suffices Is (Js (Db en B m s e) (0,acc)) fun o=>o=.inl (acc++Xf en e s B L) by obtain ⟨o,h,rfl⟩:=this; exact h
 have hb:∀ i,(acc++Xf en e s B (L.take i)).length<=20000:=fun i=>by
  have:=Jpk en e s B (L.take i);simp only [List.length_append,List.length_take] at *; omega
 refine Is.loop (mk:=fun (i:Nat) (x:List Jc)=>((i:Int),x)) L.length (fun i x=>x=acc++Xf en e s B (L.take i)) acc (by simp [Xf]) ?_ ?_
 ·rintro i x hi rfl;have hx:L[i]? = some L[i]:=List.getElem?_eq_getElem hi;have hof:=hoff L[i] (List.getElem_mem hi);unfold Db;simp only [hm];refine Is.inb hi ?_;have hnext:Xf en e s B (L.take (i+1))=Xf en e s B (L.take i)++(if atE e s B L[i]<=en then [Kev e s B L[i]] else []):=by
   unfold Xf;rw [Zj hx,List.map_append,List.filter_append];congr 1
   by_cases hc:atE e s B L[i]<=en <;> simp [hc,Kev]
  refine Is.onInl (θ:=fun o=>o=.inl (acc++Xf en e s B (L.take (i+1)))) ?_ (fun v hv=>Is.val ⟨acc++Xf en e s B (L.take (i+1)),by cases hv; rw [Cv (by omega)],rfl⟩) (fun b hb=>by cases hb);refine Is.at hx ?_;have hat:(bif decide (s.In=1) then some (.inl (w64 ((w64 (B+e.Length)) - L[i].Offset))) else some (.inl (w64 (B+L[i].Offset))):Option (Int⊕(List Jc⊕((Int×List Jc)⊕(List Jc⊕((List Jc×List (Int×List Jj))⊕((Int×Int×List (Int×List Jj)×List Jc)⊕(List Jc⊕List Jc))))))))=some (.inl (atE e s B L[i])):=by
   unfold atE
   by_cases h1:s.In=1
   ·rw [decide_eq_true h1,cond_true,if_pos h1,Vc (n:=B+e.Length) (by omega) (by omega),Vc (by omega) (by omega)]
   ·rw [decide_eq_false h1,cond_false,if_neg h1,Vc (by omega) (by omega)]
  rw [hat];simp only [onInl,Vs,Option.bind_some];rw [hnext];refine Is.ite (p:=atE e s B L[i]<=en) Ky (fun hc=>?_) (fun hc=>Is.val ?_)
  ·rw [if_pos hc];refine Is.bind (Is.app ?_) fun M hM=>Is.val ?_
   ·have:=hb i;simp only [List.length_cons,List.length_nil,Jw,Enc.b]; omega
   ·rw [hM,List.append_assoc]; rfl
  ·rw [if_neg hc,List.append_nil]
 ·rintro x rfl;unfold Db;simp only [hm];refine Is.oub (Is.val ?_);rw [List.take_length]
theorem Jow {l:Ja} (h:Sm l) (hO:OkL l) {way:List Jb} (hv:Yv l way) {o:Int} (ho:-1073741824<=o/\o<=1073741824) (en:Int) :
  ∃ M,Ok l way o en=some M/\M.Perm (Dr l en o way)/\M.Pairwise leL:=by
 have hw:=hv.2.1;have hbl:l.Balises.length<=24:=by have:=hO.counts; unfold Mb at this; omega
 obtain ⟨r,hr,hri⟩:=Ja8 l way h.jo (by omega);unfold Ok;rw [hr,hri.2 hv];have hgo:Jl7 (fun (x:Jj)=>x.El) l.Balises=some (grp (fun (x:Jj)=>x.El) l.Balises):=by
  unfold Jl7;rw [if_pos ⟨by omega,by decide⟩]
 simp only [Option.bind_some,Bool.not_true,cond_false,hgo];have hloop:Is (Js (Gs l way en) (o,0,grp (fun (x:Jj)=>x.El) l.Balises,([]:List Jc))) fun q=>q=.inl (Dr l en o way):=by
  refine Is.loop (mk:=fun (i:Nat) (x:Int×List (Int×List Jj)×List Jc)=>(x.1,(i:Int),x.2.1,x.2.2)) way.length
   (fun i x=>x.1=o+Wg l (way.take i)/\(∀ j s,i<=j->way[j]? = some s->(Vt x.2.1 s.El).getD []=Ja7 l s.El)/\x.2.2=Dr l en o (way.take i)) (o,grp (fun (x:Jj)=>x.El) l.Balises,[]) ⟨by simp [Wg],fun j s _ _=>Kh7 _ _ _,by simp [Dr]⟩ ?_ ?_
  ·rintro i ⟨B,m,acc⟩ hi ⟨hB,hm,hacc⟩;simp only at hB hm hacc;have hs:way[i]? = some way[i]:=List.getElem?_eq_getElem hi;obtain ⟨e,e1,e2,e3,e4,e5,e6⟩:=Jle hO hv hs;have hsum:=Jgg hO hv i (by omega);have hlen:=e5.2.1;have hBb:-2147483648<=B/\B<=2147483648:=by omega
   have hal:acc.length<=10000:=by
    have:=Jnw l en (way.take i) o;rw [hacc];refine Nat.le_trans this ?_;have:(way.take i).length * l.Balises.length<=64 * 24:=Nat.mul_le_mul (by simp; omega) hbl;omega
   have hnB:o+Wg l (way.take (i+1))=B+e.Length:=by
    rw [Wa hs,Gr];simp only [Wg,Int.add_zero,e4]; omega
   unfold Gs;refine Is.inb hi (Is.at hs ?_);have hel:(decide (way[i].El<0))=false/\(decide (((l.Elements.length:Nat):Int)<=way[i].El))=false:=by
    unfold Vf at e3;simp only [Bool.and_eq_true,decide_eq_true_eq] at e3;exact ⟨decide_eq_false (by omega),decide_eq_false (by omega)⟩
   rw [hel.1,hel.2];simp only [cond_false,Option.bind_some,e1,Jh0];have hstep:Jar l en B way[i]=if Kcd e.Kind way[i]=true then Xf en e way[i] B (Ja7 l way[i].El) else []:=by
    unfold Jar; rw [e2]
   have hoff:∀ b∈Ja7 l way[i].El,0<=b.Offset/\b.Offset<=1000000:=fun b hb=>by
    obtain ⟨q1,q2⟩:=List.mem_filter.1 hb;have q2:b.El=way[i].El:=by simpa using q2
    obtain ⟨_,_,_,k1,k2⟩:=hO.bal b q1;rw [q2] at k2;unfold Jhu at k2;rw [e2] at k2;simp only [Option.map_some,Option.getD_some] at k2;exact ⟨k1,by omega⟩
   have hlk:Dr l en o (way.take (i+1))=acc++Jar l en B way[i]:=by
    rw [Wa hs,Jj4,<- hacc,<- hB]
   refine Is.onInl (θ:=fun q=>∃ m',q=.inl (acc++Jar l en B way[i],m')/\∀ j s,i+1<=j->way[j]? = some s->(Vt m' s.El).getD []=Ja7 l s.El) ?_ ?_ (fun b hb=>by obtain ⟨m',hb,_⟩:=hb; cases hb)
   ·cases hp:Kcd e.Kind way[i] with
    | true =>
     rw [hp,if_pos rfl] at hstep;simp only [cond_true];rw [Jot en B m way[i] e (Ja7 l way[i].El) (hm i way[i] (Nat.le_refl _) hs) (by have:=List.length_filter_le (fun b:Jj=>decide (b.El=way[i].El)) l.Balises; unfold Ja7; omega) hBb ⟨by omega,by omega⟩ hoff acc hal,<- hstep];simp only [onInl,Vs,Option.bind_some];refine Is.val ⟨_,rfl,fun j s hj hjs=>?_⟩;rw [Jps (fun q=>?_)]
     ·exact hm j s (by omega) hjs
     ·have:=hv.apart hjs hs q; omega
    | false =>
     rw [hp] at hstep;simp only [cond_false];refine Is.val ⟨m, ?_,fun j s hj hjs=>hm j s (by omega) hjs⟩;rw [hstep]; simp
   ·rintro ⟨v1,v2⟩ ⟨m',hvv,hm'⟩;cases hvv;refine Is.val ⟨(w64 (B+e.Length),v2,acc++Jar l en B way[i]),by rw [Cv (by omega)], ?_,hm', ?_⟩
    ·show w64 (B+e.Length)=_;rw [Vc (by omega) (by omega),hnB]
    ·exact hlk.symm
  ·rintro ⟨B,m,acc⟩ ⟨hB,hm,hacc⟩;simp only at hacc;unfold Gs;refine Is.oub (Is.val ?_);rw [hacc,List.take_length]
 obtain ⟨q,hq,rfl⟩:=hloop;obtain ⟨M,m1,m2,m3⟩:=Jok (Dr l en o way) (by have:=Jw8 hO hv en o; omega);refine ⟨M, ?_,m2,m3⟩;rw [hq];simp only [onInl,Vs,Option.bind_some,m1]
end PM
namespace PM
open Go Go.RowKit
end PM
namespace PM
open Go Go.RowKit
def Jdu (x:Jd):Prop:=-1073741824<=x.From/\x.From<x.To/\x.To<=1073741824 /\ -50<=x.Grade/\x.Grade<=50/\1<=x.Speed/\x.Speed<=10000
def Kic (p:List Jd) (i:Nat) (x:Jd):Prop:=Jdu x/\∀ y,0<i->p[i - 1]? = some y->x.From=y.To
def Sy (p:List Jd):Prop:=p.length<=128/\∀ i x,p[i]? = some x->Kic p i x
theorem Ds (p:List Jd):Is (Vj p) fun b=>b=true↔Sy p:=by
 unfold Vj;refine Is.ite (p:=128<p.length) (by rw [decide_eq_true_iff]; omega) (fun h=>Is.val (iff_of_false Bool.false_ne_true fun q=>absurd q.1 (by omega))) (fun h=>?_);refine Is.all (L:=p) (fun i x=>Kic p i x) () (by omega) (fun i x hx hi _=>?_) (by simp [Ft]) (fun hn=>Is.val (iff_of_true rfl ⟨by omega,hn⟩));unfold Ft;refine Is.inb hi (Is.at hx ?_);simp only [Vh,Option.bind_some,Jmb,Bool.cond_true_left];refine Is.ite (p:=¬ Jdu x) (by unfold Jdu; simp only [Bool.or_eq_true,Bool.not_eq_true',Bool.and_eq_false_iff,decide_eq_false_iff_not,decide_eq_true_eq]; omega) (fun hb=>Is.val (iff_of_false Bool.false_ne_true fun q=>hb (q.2 i x hx).1)) (fun hb=>?_);refine Is.bind (Kaf hi (by omega) (f:=fun y => !(decide (x.From=y.To))) (q:=fun y=>x.From=y.To) fun y=>by simp) fun b hb2=>?_;rw [<- Jmb];refine Is.ite hb2 (fun hc=>?_) (fun hc=>?_)
 ·exact Is.val (iff_of_false Bool.false_ne_true fun q=>hc (q.2 i x hx).2)
 ·exact Is.val ⟨rfl,Classical.not_not.1 hb,Classical.not_not.1 hc⟩
def AVal (a:Qd):Prop:=((1<=a.Seq/\a.Seq<=1073741824)/\Sy a.Profile)/\(∃ y,a.Profile[a.Profile.length - 1]? = some y/\y.To=a.End)/\LVal a.Links
theorem Kiw {a:Qd} (h:a.Profile.length<=1048576) {b:Bool} {p:Prop} (hb:b=true↔p) :
  Is (bif (b&&(decide (0<((a.Profile.length:Nat):Int)))) then (ixO a.Profile (w64 (((a.Profile.length:Nat):Int) - 1))).bind fun x4=>some (decide (x4.To=a.End)) else some false) fun c=>c=true↔p/\∃ y,a.Profile[a.Profile.length - 1]? = some y/\y.To=a.End:=by
 refine (Is.and (p:=p/\0<a.Profile.length) (q:=∃ y,a.Profile[a.Profile.length - 1]? = some y/\y.To=a.End) (by rw [Bool.and_eq_true,hb,decide_eq_true_iff]; exact and_congr_right fun _=>by omega) fun hp=>?_).iff ?_
 ·have hg:a.Profile[a.Profile.length - 1]? = some a.Profile[a.Profile.length - 1]:=List.getElem?_eq_getElem (by omega);rw [Vc (by omega) (by omega),show ((a.Profile.length:Nat):Int) - 1=((a.Profile.length - 1:Nat):Int) by omega,Zb hg];refine Is.dec ⟨fun e=>⟨_,hg,e⟩,fun ⟨y,hy,e⟩=>by rw [hg] at hy; cases hy; exact e⟩
 ·refine ⟨fun q=>⟨q.1.1,q.2⟩,fun q=>⟨⟨q.1, ?_⟩,q.2⟩⟩;obtain ⟨y,hy,_⟩:=q.2;have:=(List.getElem?_eq_some_iff.1 hy).1; omega
theorem Jf9 {a:Qd} (h:a.Profile.length<=1048576):Is (Ce a) fun b=>b=true↔AVal a:=by
 unfold Ce;simp only [Jek];refine Is.bind (Is.and (p:=1<=a.Seq/\a.Seq<=1073741824) (q:=Sy a.Profile) (by simp) fun _=>Ds _) fun b hb=>?_;refine Is.bind (Kiw h hb) fun c hc=>?_;exact (Is.and hc fun _=>Jiq a.Links).iff ⟨fun q=>⟨q.1.1,q.1.2,q.2⟩,fun q=>⟨⟨q.1,q.2.1⟩,q.2.2⟩⟩
theorem Sy.ok {p:List Jd} (h:Sy p) {i:Nat} {x:Jd} (hx:p[i]? = some x):Jdu x:=(h.2 i x hx).1
end PM
namespace PM
open Go Go.RowKit
def Jew : Int->List Jd->Int->Prop
 | a,[],b=>a=b
 | a,s::p,b=>s.From=a/\Jdu s/\Jew s.To p b
theorem Jew.get : ∀ {p:List Jd} {a b:Int},Jew a p b->∀ {i:Nat} {x:Jd},p[i]? = some x->Kic p i x
 | [],_,_,_,i,x,h=>by simp at h
 | s::p,a,b,hc,0,x,h=>by
  simp at h; subst h;exact ⟨hc.2.1,fun y h0=>by omega⟩
 | s::p,a,b,hc,i+1,x,h=>by
  have h':p[i]? = some x:=by simpa using h
  obtain ⟨h1,h2⟩:=Jew.get hc.2.2 h';refine ⟨h1,fun y _ hy=>?_⟩;rw [Nat.add_sub_cancel] at hy;cases i with
  | zero =>
   simp at hy; subst hy;cases p with
   | nil=>simp at h'
   | cons u p=>simp at h'; subst h'; exact hc.2.2.1
  | succ i=>exact h2 y (by omega) (by simpa using hy)
theorem Jz5 : ∀ {p:List Jd},(∀ i x,p[i]? = some x->Kic p i x)->∀ {f l:Jd},p[0]? = some f->p[p.length - 1]? = some l->Jew f.From p l.To
 | [],_,f,l,hf,_=>by simp at hf
 | [s],h,f,l,hf,hl=>by
  simp at hf hl; subst hf; subst hl;exact ⟨rfl,(h 0 _ rfl).1,rfl⟩
 | s::u::p,h,f,l,hf,hl=>by
  simp at hf; subst hf;have h1:=(h 1 u rfl).2 s (by omega) rfl;have ih:=Jz5 (p:=u::p) (fun i x hx=>by
   obtain ⟨q1,q2⟩:=h (i+1) x (by simpa using hx);refine ⟨q1,fun y h0 hy=>q2 y (by omega) ?_⟩;rw [Nat.add_sub_cancel];obtain ⟨j,rfl⟩:=Nat.exists_eq_succ_of_ne_zero (Nat.pos_iff_ne_zero.1 h0)
   simpa using hy) (f:=u) (l:=l) rfl (by simpa using hl)
  exact ⟨rfl,(h 0 s rfl).1,by rw [<- h1]; exact ih⟩
def Jlx (f t:Int) (s:Jd):Jd:=⟨max s.From f,min s.To t,s.Grade,s.Speed⟩
def Jdh (p:List Jd) (f t:Int):List Jd:=(p.filter fun s=>decide (max s.From f<min s.To t)).map (Jlx f t)
theorem Joa {p:List Jd} (h:Sy p) (f t:Int):Zr p f t=some (Jdh p f t):=by
 suffices Is (Zr p f t) fun r=>r=Jdh p f t by obtain ⟨r,h,rfl⟩:=this; exact h
 unfold Zr;obtain ⟨b,h1,h2⟩:=Ds p;rw [h1,h2.2 h];have hl:=h.1;have hlen:∀ i,(Jdh (p.take i) f t).length<=i:=fun i=>by
  unfold Jdh;rw [List.length_map];exact Nat.le_trans (List.length_filter_le _ _) (by simp; omega)
 simp only [Option.bind_some,Bool.not_true,cond_false];refine Is.fold (L:=p) (mk:=fun i (m:List Jd)=>(i,m)) (fun i m=>m=Jdh (p.take i) f t) [] (by omega) rfl (fun i x m hx hi hI=>?_) (fun m hI=>?_)
 ·subst hI;unfold Ll;refine Is.inb hi ?_;refine Is.onInl (θ:=fun o=>o=.inl (Jdh (p.take (i+1)) f t)) (Is.at hx ?_) (fun v hv=>Is.val ⟨Jdh (p.take (i+1)) f t,by cases hv; rfl,rfl⟩) (fun b hb=>by cases hb);have ht:Jdh (p.take (i+1)) f t=Jdh (p.take i) f t++(if max x.From f<min x.To t then [Jlx f t x] else []):=by
   rw [Zj hx];unfold Jdh;rw [List.filter_append,List.map_append];congr 1
   by_cases hc:max x.From f<min x.To t <;> simp [hc]
  simp only [Ya,Option.bind_some];refine Is.ite (p:=max x.From f<min x.To t) Ky (fun hb=>?_) (fun hb=>Is.val ?_)
  ·rw [if_pos hb] at ht;refine Is.bind (Is.app ?_) fun M hM=>Is.val ?_
   ·have:=hlen i;simp only [List.length_cons,List.length_nil,Jw,Enc.b]; omega
   ·rw [hM,ht]; rfl
  ·rw [ht,if_neg hb,List.append_nil]
 ·subst hI;unfold Ll;refine Is.oub (Is.val ?_);rw [List.take_length];exact Is.val rfl
end PM
namespace PM
open Go Go.RowKit
def Kki (e:Ju) (s:Jb):Int:=if s.In=0\/(s.In=2/\e.Kind=3) then e.Grade else -e.Grade
def Kkg (e:Ju) (s:Jb):Int:=if e.Kind=2/\(s.In=2\/s.Out=2) then e.Slow else e.Speed
def Kh4 (e:Ju) (s:Jb) (B:Int):Jd:=⟨B,B+e.Length,Kki e s,Kkg e s⟩
def Jpv (l:Ja) (B:Int) (s:Jb):List Jd :=
 match l.Elements[s.El.toNat]? with
 | some e=>[Kh4 e s B]
 | none=>[]
def ofS (l:Ja):Int->List Jb->List Jd
 | _,[]=>[]
 | B,s::w=>Jpv l B s++ofS l (B+lenOf l s) w
theorem Jtl (l:Ja) (s:Jb):∀ (w:List Jb) (B:Int),ofS l B (w++[s])=ofS l B w++Jpv l (B+Wg l w) s
 | [],B=>by simp [ofS,Wg]
 | t::w,B=>by
  simp only [List.cons_append,ofS,Jtl l s w,List.append_assoc,Wg];rw [Int.add_assoc]
theorem Kck (l:Ja) (B:Int) (s:Jb):(Jpv l B s).length<=1:=by
 unfold Jpv; split <;> simp
theorem Jz7 (l:Ja):∀ (w:List Jb) (B:Int),(ofS l B w).length<=w.length
 | [],_=>by simp [ofS]
 | s::w,B=>by
  have h1:=Kck l B s;have h2:=Jz7 l w (B+lenOf l s);simp only [ofS,List.length_append,List.length_cons]; omega
open Classical in
noncomputable def ofP (l:Ja) (o:Int) (w:List Jb):List Jd:=if Sy (ofS l o w) then ofS l o w else []
theorem Jtd : Sy []:=⟨by simp,fun i x h=>by simp at h⟩
theorem Jy7 (l:Ja) (o:Int) (w:List Jb):Sy (ofP l o w):=by
 unfold ofP; split
 ·assumption
 ·exact Jtd
theorem Jzd {l:Ja} {s:Jb} {e:Ju} (he:l.Elements[s.El.toNat]? = some e):∀ {w:List Jb} {B:Int} {i:Nat},w[i]? = some s->Kh4 e s (B+Wg l (w.take i))∈ofS l B w
 | [],_,i,h=>by simp at h
 | t::w,B,0,h=>by
  simp at h; subst h;simp [ofS,Jpv,he,Wg]
 | t::w,B,i+1,h=>by
  have:=Jzd he (w:=w) (B:=B+lenOf l t) (i:=i) (by simpa using h);simp only [ofS,List.take_succ_cons,Wg,List.mem_append];rw [Int.add_assoc] at this;exact .inr this
def Jl3 (f t sp:Int) (s:Jd):List Jd :=
 if max s.From f<min s.To t then Jdh [s] (-1073741824) f++(⟨max s.From f,min s.To t,s.Grade,min s.Speed sp⟩::Jdh [s] t 1073741824) else [s]
def Jbq (p:List Jd) (f t sp:Int):List Jd:=p.flatMap (Jl3 f t sp)
open Classical in
noncomputable def Lim (p:List Jd) (f t sp:Int):List Jd:=if Sy p/\1<=sp/\(Jbq p f t sp).length<=128 then Jbq p f t sp else []
theorem Jb5 (s:Jd) (f t:Int):Jdh [s] f t=if max s.From f<min s.To t then [Jlx f t s] else []:=by
 unfold Jdh; by_cases h:max s.From f<min s.To t <;> simp [h]
theorem Kf4 (f t sp:Int) (s:Jd):1<=(Jl3 f t sp s).length/\(Jl3 f t sp s).length<=3:=by
 unfold Jl3;rw [Jb5,Jb5];split
 ·split <;> split <;> simp
 ·simp
theorem Kb5 (p:List Jd) (s:Jd) (f t sp:Int):Jbq (p++[s]) f t sp=Jbq p f t sp++Jl3 f t sp s:=by simp [Jbq]
theorem Jvk (f t sp:Int):∀ p:List Jd,p.length<=(Jbq p f t sp).length/\(Jbq p f t sp).length<=3 * p.length
 | []=>by simp [Jbq]
 | s::p=>by
  have h1:=Kf4 f t sp s;have h2:=Jvk f t sp p;simp only [Jbq,List.flatMap_cons,List.length_append,List.length_cons] at h2 ⊢;omega
theorem Jew.app : ∀ {p q:List Jd} {a b c:Int},Jew a p b->Jew b q c->Jew a (p++q) c
 | [],_,a,b,c,h,g=>by
  have:a=b:=h;subst this; exact g
 | s::p,q,a,b,c,h,g=>⟨h.1,h.2.1,Jew.app h.2.2 g⟩
theorem Kby {s:Jd} (hs:Jdu s) (f t:Int) {sp:Int} (hsp:1<=sp):Jew s.From (Jl3 f t sp s) s.To:=by
 unfold Jl3;have hs':=hs;unfold Jdu at hs';split
 ·rename_i h;rw [Jb5,Jb5];split <;> split <;> simp only [List.nil_append,List.cons_append,Jew,Jlx,Jdu] <;> omega
 ·exact ⟨rfl,hs,rfl⟩
theorem Jp6 (f t:Int) {sp:Int} (hsp:1<=sp):∀ {p:List Jd} {a b:Int},Jew a p b->Jew a (Jbq p f t sp) b
 | [],_,_,h=>h
 | s::p,a,b,h=>by
  obtain ⟨h1,h2,h3⟩:=h;have:=Jew.app (Kby h2 f t hsp) (Jp6 f t hsp h3);rw [h1] at this;exact this
theorem Khk {p:List Jd} {a b:Int} (h:Jew a p b) (hl:p.length<=128):Sy p:=⟨hl,fun _ _ hx=>h.get hx⟩
theorem Kg0 {p:List Jd} (h:Sy p):∃ a b,Jew a p b:=by
 cases p with
 | nil=>exact ⟨0,0,rfl⟩
 | cons s p=>exact ⟨s.From,_,Jz5 h.2 (f:=s) rfl (List.getElem?_eq_getElem (by simp))⟩
theorem Kjd (p:List Jd) (f t sp:Int):Sy (Lim p f t sp):=by
 unfold Lim; split
 ·rename_i h;obtain ⟨a,b,hc⟩:=Kg0 h.1;exact Khk (Jp6 f t h.2.1 hc) h.2.2
 ·exact Jtd
theorem Ki3 (f t sp:Int):Lim [] f t sp=[]:=by
 unfold Lim; split <;> simp [Jbq]
def Kds (e:Ju) (s:Jb):Prop:=s.In=0\/(s.In=2/\e.Kind=3)
instance (e:Ju) (s:Jb):Decidable (Kds e s):=by unfold Kds; exact inferInstance
def Jjr (e:Ju) (s:Jb) (B:Int) (r:Jk):Int×Int:=if Kds e s then (B+r.From,B+r.To) else (B+e.Length - r.To,B+e.Length - r.From)
noncomputable def Jke (l:Ja) (r:Jk) (B:Int) (s:Jb) (p:List Jd):List Jd :=
 match l.Elements[s.El.toNat]? with
 | some e=>if s.El=r.El then Lim p (Jjr e s B r).1 (Jjr e s B r).2 r.Speed else p
 | none=>p
noncomputable def Si (l:Ja) (r:Jk):Int->List Jb->List Jd->List Jd
 | _,[],p=>p
 | B,s::w,p=>Si l r (B+lenOf l s) w (Jke l r B s p)
theorem Jeg (l:Ja) (r:Jk) (v:List Jb):∀ (w:List Jb) (B:Int) (p:List Jd),Si l r B (w++v) p=Si l r (B+Wg l w) v (Si l r B w p)
 | [],B,p=>by simp [Si,Wg]
 | s::w,B,p=>by
  simp only [List.cons_append,Si,Jeg l r v w,Wg];rw [Int.add_assoc]
theorem Kba (l:Ja) (r:Jk) (B:Int) (s:Jb):Jke l r B s []=[]:=by
 unfold Jke;split
 ·split
  ·exact Ki3 _ _ _
  ·rfl
 ·rfl
theorem Jmt (l:Ja) (r:Jk):∀ (w:List Jb) (B:Int),Si l r B w []=[]
 | [],_=>rfl
 | s::w,B=>by simp only [Si,Kba]; exact Jmt l r w _
theorem Kbp {l:Ja} {r:Jk} {B:Int} {s:Jb} {p:List Jd} (h:Sy p):Sy (Jke l r B s p):=by
 unfold Jke;split
 ·split
  ·exact Kjd _ _ _ _
  ·exact h
 ·exact h
theorem Jtu {l:Ja} {r:Jk}:∀ {w:List Jb} {B:Int} {p:List Jd},Sy p->Sy (Si l r B w p)
 | [],_,_,h=>h
 | s::w,B,p,h=>Jtu (w:=w) (Kbp h)
def Jnb (l:Ja) (r:Jk):Prop :=
 (1<=r.Id/\r.Id<=1073741824)/\Vf l r.El=true/\0<=r.From/\r.From<r.To/\r.To<=Jhu l r.El/\100<=r.Speed/\r.Speed<=10000
open Classical in
noncomputable def Jq6 (l:Ja) (o:Int) (w:List Jb) (r:Jk) (p:List Jd):List Jd:=if r.Active=true/\Jnb l r then Si l r o w p else p
noncomputable def Jbf (l:Ja) (o:Int) (w:List Jb) (list:List Jk) (p:List Jd):List Jd:=list.foldl (fun q r=>Jq6 l o w r q) p
theorem Kd3 (l:Ja) (o:Int) (w:List Jb) (r:Jk):Jq6 l o w r []=[]:=by
 unfold Jq6; split
 ·exact Jmt l r w o
 ·rfl
theorem Kg9 {l:Ja} {o:Int} {w:List Jb} {r:Jk} {p:List Jd} (h:Sy p):Sy (Jq6 l o w r p):=by
 unfold Jq6; split
 ·exact Jtu h
 ·exact h
theorem Jkg (l:Ja) (o:Int) (w:List Jb) (a b:List Jk) (p:List Jd):Jbf l o w (a++b) p=Jbf l o w b (Jbf l o w a p):=by simp [Jbf]
theorem Khg (l:Ja) (o:Int) (w:List Jb) (r:Jk) (p:List Jd):Jbf l o w [r] p=Jq6 l o w r p:=rfl
theorem Jtw (l:Ja) (o:Int) (w:List Jb):∀ list:List Jk,Jbf l o w list []=[]
 | []=>rfl
 | r::list=>by
  have:=Jtw l o w list;simp only [Jbf,List.foldl_cons,Kd3] at this ⊢;exact this
theorem Jvn {l:Ja} {o:Int} {w:List Jb}:∀ {list:List Jk} {p:List Jd},Sy p->Sy (Jbf l o w list p)
 | [],_,h=>h
 | r::list,p,h=>Jvn (list:=list) (Kg9 h)
theorem Jtj {e:Ju} (he:-50<=e.Grade/\e.Grade<=50) (s:Jb):Be e s=some (Kki e s):=by
 unfold Be Kki;rw [Vc (by omega) (by omega)]
 by_cases h0:s.In=0 <;> by_cases h2:s.In=2 <;> by_cases h3:e.Kind=3 <;> simp [h0,h2,h3]
theorem Ker (e:Ju) (s:Jb):Es e s=some (Kkg e s):=by
 unfold Es Kkg
 by_cases h1:e.Kind=2 <;> by_cases h2:s.In=2 <;> by_cases h3:s.Out=2 <;> simp [h1,h2,h3]
theorem Kjb {l:Ja} {o:Int} {way:List Jb} {i:Nat} {s:Jb} {e:Ju} (hs:way[i]? = some s) (he:l.Elements[s.El.toNat]? = some e)
  (hn:¬ (-1073741824<=o+Wg l (way.take i)/\o+Wg l (way.take i)<=1073741824)):¬ Sy (ofS l o way):=fun hp=>by
 obtain ⟨j,hj⟩:=List.getElem?_of_mem (Jzd (B:=o) he hs);have:=hp.ok hj;unfold Jdu Kh4 at this;dsimp only at this;omega
theorem Jov {l:Ja} (hO:OkL l) {way:List Jb} (hv:Yv l way) {o:Int} (ho:-1073741824<=o/\o<=1073741824):Hw l way o=some (ofP l o way):=by
 suffices Is (Hw l way o) fun r=>r=ofP l o way by obtain ⟨r,h,rfl⟩:=this; exact h
 unfold Hw;have hl:=hv.2.1;rw [decide_eq_false (by omega),cond_false];refine Is.fold (L:=way) (mk:=fun i (m:Int×List Jd)=>(m.1,i,m.2)) (fun i m=>m.1=o+Wg l (way.take i)/\m.2=ofS l o (way.take i)) (o,[]) (by omega) (by simp [Wg,ofS]) (fun i s m hs hi hI=>?_) (fun m hI=>?_)
 ·obtain ⟨B,p⟩:=m;obtain ⟨rfl,rfl⟩:=hI;obtain ⟨e,h1,h2,h3,h4,h5,h6⟩:=Jle hO hv hs;have hb:=Jgg hO hv i (by omega);have hlen:=Jz7 l (way.take i) o;rw [List.length_take] at hlen;unfold Nu;refine Is.inb hi (Is.at hs ?_);have hh:=h3;simp only [Vf,Bool.and_eq_true,decide_eq_true_eq] at hh;rw [decide_eq_false (show ¬ s.El<0 by omega),decide_eq_false (show ¬ ((l.Elements.length:Nat):Int)<=s.El by omega)];simp only [cond_false,Option.bind_some,h1,Jdk,h6,Bool.not_true,Vh];refine Is.ifn (p:=-1073741824<=o+Wg l (way.take i)/\o+Wg l (way.take i)<=1073741824) (by simp) (fun hc=>Is.val ?_) (fun hc=>?_)
  ·unfold ofP; rw [if_neg (Kjb hs h2 hc)]
  ·rw [Jtj h5.2.2.1,Ker];simp only [Option.bind_some];have h52:=h5.2.1;refine Is.bind (Is.app ?_) fun M hM=>Is.val ⟨(o+Wg l (way.take (i+1)),ofS l o (way.take (i+1))), ?_,rfl,rfl⟩
   ·simp only [List.length_cons,List.length_nil,Jw,Enc.b]; omega
   ·rw [hM,Zj hs,Jtl,Gr,Vc (by omega) (by omega)];simp only [Jpv,h2,Kh4,Wg,h4,Int.add_zero,Int.add_assoc]
 ·obtain ⟨B,p⟩:=m;obtain ⟨rfl,rfl⟩:=hI;unfold Nu;refine Is.oub (Is.val ?_);rw [List.take_length];obtain ⟨b,hb,hbi⟩:=Ds (ofS l o way);show Is ((Vj (ofS l o way)).bind _) _;rw [hb];refine Is.ifn hbi (fun hc=>Is.val ?_) (fun hc=>Is.val ?_)
  ·unfold ofP; rw [if_neg hc]
  ·unfold ofP; rw [if_pos hc]
theorem Ju3 {s:Jd} (hs:Jdu s) {f t sp:Int} (h:max s.From f<min s.To t) :
  ([⟨s.From,max s.From f,s.Grade,s.Speed⟩,⟨max s.From f,min s.To t,s.Grade,min s.Speed sp⟩,⟨min s.To t,s.To,s.Grade,s.Speed⟩]:List Jd).filter (fun x=>decide (x.From<x.To))=Jl3 f t sp s:=by
 unfold Jdu at hs;unfold Jl3;rw [if_pos h,Jb5,Jb5];have h2:decide (max s.From f<min s.To t)=true:=decide_eq_true h;simp only [List.filter_cons,h2,if_true,List.filter_nil]
 by_cases c1:s.From<max s.From f
 ·have e1:max s.From (-1073741824)=s.From:=by omega
  have e2:min s.To f=max s.From f:=by omega
  by_cases c2:min s.To t<s.To
  ·have e3:max s.From t=min s.To t:=by omega
   have e4:min s.To 1073741824=s.To:=by omega
   simp [c1,c2,Jlx,e1,e2,e3,e4]
  ·have e3:¬ max s.From t<min s.To 1073741824:=by omega
   simp only [decide_eq_false c2,decide_eq_true c1,if_neg e3,e1,e2,if_pos c1,Jlx];simp
 ·have e1:¬ max s.From (-1073741824)<min s.To f:=by omega
  by_cases c2:min s.To t<s.To
  ·have e3:max s.From t=min s.To t:=by omega
   have e4:min s.To 1073741824=s.To:=by omega
   simp only [decide_eq_false c1,decide_eq_true c2,if_neg e1,e3,e4,if_pos c2,Jlx];simp
  ·have e3:¬ max s.From t<min s.To 1073741824:=by omega
   simp only [decide_eq_false c1,decide_eq_false c2,if_neg e1,if_neg e3];simp
theorem Jit {p:List Jd} (f t sp:Int):Zg p f t sp=some (Lim p f t sp):=by
 suffices Is (Zg p f t sp) fun r=>r=Lim p f t sp by obtain ⟨r,h,rfl⟩:=this; exact h
 unfold Zg;obtain ⟨b,hb,hbi⟩:=Ds p;rw [hb];simp only [Option.bind_some];refine Is.ite (p:=¬ (Sy p/\1<=sp)) (by
  rw [<- hbi]; cases b <;> simp <;> omega) (fun hc=>Is.val ?_) (fun hc=>?_)
 ·unfold Lim; rw [if_neg fun q=>hc ⟨q.1,q.2.1⟩]
 have hc:=Classical.not_not.1 hc;have hp:=hc.1;have hpl:=hp.1;refine Is.fold (L:=p) (mk:=fun i (m:List Jd)=>(i,m)) (fun i m=>m=Jbq (p.take i) f t sp) [] (by omega) rfl (fun i s m hs hi hI=>?_) (fun m hI=>?_)
 ·subst hI;unfold Gh;have hlen:=(Jvk f t sp (p.take i)).2;rw [List.length_take] at hlen;have hok:=hp.ok hs;have hsn:Jbq (p.take (i+1)) f t sp=Jbq (p.take i) f t sp++Jl3 f t sp s:=by rw [Zj hs,Kb5]
  refine Is.inb hi ?_;refine Is.onInl (θ:=fun o=>o=.inl (Jbq (p.take (i+1)) f t sp)) (Is.at hs ?_) (fun v hv=>Is.val ⟨Jbq (p.take (i+1)) f t sp,by cases hv; rfl,rfl⟩) (fun b hb=>by cases hb);simp only [Ya,Option.bind_some];refine Is.ifn (p:=max s.From f<min s.To t) Ky (fun hn=>?_) (fun hy=>?_)
  ·refine Is.bind (Is.app ?_) fun M hM=>Is.val ?_
   ·simp only [List.length_cons,List.length_nil,Jw,Enc.b]; omega
   ·rw [hM,hsn]; unfold Jl3; rw [if_neg hn]
  ·rw [hsn,<- Ju3 hok hy];generalize hL:([⟨s.From,max s.From f,s.Grade,s.Speed⟩,⟨max s.From f,min s.To t,s.Grade,min s.Speed sp⟩,⟨min s.To t,s.To,s.Grade,s.Speed⟩]:List Jd)=L;have hLl:L.length=3:=by rw [<- hL]; rfl
   have hstep:Pd sp s (⟨max s.From f,min s.To t,s.Grade,s.Speed⟩,decide (max s.From f<min s.To t))=fun (x:List Jd×Int)=>bif decide (x.2<((L.length:Nat):Int)) then (onInl (α:=(List Jd)) ((ixO L x.2).bind fun x188=>bif decide (x188.From<x188.To) then ((Uq x.1 [x188]).bind fun x189=>some (.inl x189)) else some (.inl x.1)) fun x187=>some (.inl (x187,w64 (x.2+1)))) else some (.inr (.inl x.1)):=by
    rw [<- hL]; rfl
   rw [hstep];refine Is.fold (L:=L) (mk:=fun j (m:List Jd)=>(m,j)) (fun j m=>m=Jbq (p.take i) f t sp++(L.take j).filter (fun x=>decide (x.From<x.To))) (Jbq (p.take i) f t sp) (by omega) (by simp) (fun j u m hu hj hI=>?_) (fun m hI=>?_)
   ·subst hI;have hl2:((L.take j).filter (fun x=>decide (x.From<x.To))).length<=3:=Nat.le_trans (List.length_filter_le _ _) (by rw [List.length_take]; omega);refine Is.inb hj ?_;refine Is.onInl (θ:=fun o=>o=.inl (Jbq (p.take i) f t sp++(L.take (j+1)).filter (fun x=>decide (x.From<x.To)))) (Is.at hu ?_) (fun v hv=>Is.val ⟨_,by cases hv; rfl,rfl⟩) (fun b hb=>by cases hb);rw [Zj hu,List.filter_append];refine Is.ite Ky (fun hq=>?_) (fun hq=>Is.val ?_)
    ·refine Is.bind (Is.app ?_) fun M hM=>Is.val ?_
     ·simp only [List.length_append,List.length_cons,List.length_nil,Jw,Enc.b]; omega
     ·rw [hM]; simp [hq]
    ·simp [hq]
   ·subst hI;refine Is.oub (Is.val ?_);rw [List.take_length];exact Is.val rfl
 ·subst hI;unfold Gh;refine Is.oub (Is.val ?_);rw [List.take_length];refine Is.ite (p:=128<(Jbq p f t sp).length) (by rw [decide_eq_true_iff]; omega) (fun hq=>Is.val ?_) (fun hq=>Is.val ?_)
  ·unfold Lim; rw [if_neg fun q=>by omega]
  ·unfold Lim; rw [if_pos ⟨hp,hc.2,by omega⟩]
theorem Kfo {l:Ja} {i:Int} {e:Ju} (he:l.Elements[i.toNat]? = some e):Jhu l i=e.Length:=by simp [Jhu,he]
theorem Jen (l:Ja) (r:Jk):Is (Zi l r) fun c=>(c=0/\Jnb l r)\/(c=1/\¬ Jnb l r):=by
 unfold Zi;refine Is.bind (φ:=fun b=>b=true↔¬ ((1<=r.Id/\r.Id<=1073741824)/\Vf l r.El=true)) ?_ fun b hb=>Is.ite hb (fun h=>Is.val (.inr ⟨rfl,fun q=>h ⟨q.1,q.2.1⟩⟩)) fun h=>?_
 ·refine (Is.or (p:=¬ (1<=r.Id/\r.Id<=1073741824)\/r.El<0) (q:=((l.Elements.length:Nat):Int)<=r.El) (by simp; omega) fun _=>Is.dec Iff.rfl).iff ?_;simp only [Vf,Bool.and_eq_true,decide_eq_true_eq]; omega
 obtain ⟨h1,h2⟩:=Classical.not_not.1 h;obtain ⟨e,e1,e2⟩:=Yb h2;have hl:=Kfo e2;refine Is.bind (φ:=fun b=>b=true↔¬ (0<=r.From/\r.From<r.To/\r.To<=e.Length)) ?_ fun b hb=>Is.ite (p:=¬ (0<=r.From/\r.From<r.To/\r.To<=e.Length/\100<=r.Speed/\r.Speed<=10000)) (by
   rw [Bool.or_eq_true,Bool.or_eq_true,hb,decide_eq_true_iff,decide_eq_true_iff]; omega) (fun h=>Is.val (.inr ⟨rfl,fun q=>h ?_⟩)) fun h=>Is.val (.inl ⟨rfl,h1,h2, ?_⟩)
 ·refine (Is.or (p:=r.From<0\/r.To<=r.From) (q:=e.Length<r.To) (by simp) fun _=>?_).iff (by omega);rw [e1]; exact Is.dec Iff.rfl
 ·have:=q.2.2; omega
 ·omega
theorem Ki4 (e:Ju) (s:Jb):((decide (s.In=0))||((decide (s.In=2))&&(decide (e.Kind=3))))=true↔Kds e s:=by simp [Kds]
theorem Kix {l:Ja} {r:Jk} {o:Int} {way:List Jb} {p:List Jd} {i:Nat} {s:Jb} (hs:way[i]? = some s) :
  Si l r o (way.take (i+1)) p=Jke l r (o+Wg l (way.take i)) s (Si l r o (way.take i) p):=by rw [Zj hs,Jeg]; rfl
theorem Kew {l:Ja} {r:Jk} {o:Int} {way:List Jb} {p:List Jd} {i:Nat} (h:Si l r o (way.take i) p=[]):Si l r o way p=[]:=by
 have:=Jeg l r (way.drop i) (way.take i) o p;rw [List.take_append_drop,h,Jmt] at this;exact this
theorem Jwf {l:Ja} (hO:OkL l) {way:List Jb} (hv:Yv l way) {o:Int} (ho:-1073741824<=o/\o<=1073741824) (p:List Jd) {r:Jk} (hr:Jnb l r) :
  Is (Yi l way o p r) fun q=>q=some (Si l r o way p)\/(q=none/\Si l r o way p=[]):=by
 unfold Yi;have hl:=hv.2.1;refine Is.fold (L:=way) (mk:=fun i (m:List Jd×Int)=>(m.1,m.2,i)) (fun i m=>m.1=Si l r o (way.take i) p/\m.2=o+Wg l (way.take i)) (p,o) (by omega) (by simp [Wg,Si]) (fun i s m hs hi hI=>?_) (fun m hI=>?_)
 ·obtain ⟨q,B⟩:=m;obtain ⟨rfl,rfl⟩:=hI;obtain ⟨e,h1,h2,h3,h4,h5,h6⟩:=Jle hO hv hs;have hb:=Jgg hO hv i (by omega);have hat:=Kix (l:=l) (r:=r) (o:=o) (p:=p) hs;have hel:=h5.2.1;generalize hQ:Si l r o (way.take i) p=Q at hat ⊢;generalize hB:o+Wg l (way.take i)=B at hat ⊢;have hB2:-2147483648<=B/\B<=2147483648:=by omega
  have hsum:o+Wg l (way.take (i+1))=B+e.Length:=by
   rw [Zj hs,Gr]; simp only [Wg,h4,Int.add_zero]; omega
  have hstep:Jke l r B s Q=if s.El=r.El then Lim Q (Jjr e s B r).1 (Jjr e s B r).2 r.Speed else Q:=by simp [Jke,h2]
  unfold Yz;refine Is.inb hi ?_;refine Is.onInl (θ:=fun z=>z=.inl (Si l r o (way.take (i+1)) p,o+Wg l (way.take (i+1)))\/(z=.inr (.inr (.inr none))/\Si l r o (way.take (i+1)) p=[])) (Is.at hs ?_) (fun v hv=>Is.val ?_) (fun b hb=>?_)
  ·have hh:=h3;simp only [Vf,Bool.and_eq_true,decide_eq_true_eq] at hh;rw [decide_eq_false (show ¬ s.El<0 by omega),decide_eq_false (show ¬ ((l.Elements.length:Nat):Int)<=s.El by omega)];simp only [cond_false,Option.bind_some,h1];refine Is.onInl (θ:=fun z=>z=.inl (Si l r o (way.take (i+1)) p)\/(z=.inr (.inr (.inr (.inr none)))/\Si l r o (way.take (i+1)) p=[])) ?_ (fun v hv=>Is.val ?_) (fun b hb=>?_)
   ·refine Is.ite Ky (fun heq=>?_) (fun hne=>Is.val ?_)
    ·have hre:Jhu l r.El=e.Length:=by rw [<- heq]; exact Kfo h2
     obtain ⟨c1,c2,c3,c4,c5,c6⟩:=hr;refine Is.onInl (θ:=fun z=>z=.inl (Jjr e s B r)) ?_ (fun v hv=>?_) (fun b hb=>by cases hb)
     ·unfold Jjr;refine Is.ite (Ki4 e s) (fun hf=>Is.val ?_) (fun hf=>Is.val ?_)
      ·rw [if_pos hf,Vc (by omega) (by omega),Vc (by omega) (by omega)]
      ·rw [if_neg hf,Vc (n:=B+e.Length) (by omega) (by omega),Vc (by omega) (by omega),Vc (by omega) (by omega)]
     ·cases hv;rw [if_pos heq] at hstep;show Is ((Zg Q (Jjr e s B r).1 (Jjr e s B r).2 r.Speed).bind _) _;rw [Jit,<- hstep,<- hat];simp only [Option.bind_some];refine Is.onInl (θ:=fun z=>z=.inl ()\/(z=.inr (.inr (.inr (.inr (.inr none))))/\Si l r o (way.take (i+1)) p=[])) ?_ (fun v hv=>Is.val ?_) (fun b hb=>?_)
      ·refine Is.bind (φ:=fun b=>b=true->Si l r o (way.take (i+1)) p=[]) (Is.ite Ky (fun hz=>Is.val fun _=>List.length_eq_zero_iff.1 (by omega)) (fun _=>Is.val fun h=>by cases h)) fun b hb=>Is.cond (fun h=>Is.val (.inr ⟨rfl,hb h⟩)) (fun h=>Is.val (.inl rfl))
      ·exact .inl rfl
      ·rcases hb with hb|⟨hb,hz⟩
       ·cases hb
       ·cases hb; exact .inr ⟨rfl,hz⟩
    ·left; rw [hat,hstep,if_neg hne]
   ·rcases hv with hv|⟨hv,_⟩
    ·cases hv; left; rw [hsum,Vc (by omega) (by omega)]
    ·cases hv
   ·rcases hb with hb|⟨hb,hz⟩
    ·cases hb
    ·cases hb; exact .inr ⟨rfl,hz⟩
  ·rcases hv with hv|⟨hv,_⟩
   ·cases hv; exact ⟨(_,_),rfl,rfl,rfl⟩
   ·cases hv
  ·rcases hb with hb|⟨hb,hz⟩
   ·cases hb
   ·cases hb; exact .inr ⟨rfl,Kew hz⟩
 ·obtain ⟨q,B⟩:=m;obtain ⟨rfl,rfl⟩:=hI;unfold Yz;refine Is.oub (Is.val ?_);rw [List.take_length];exact Is.val (.inl rfl)
theorem Ke4 {l:Ja} {o:Int} {way:List Jb} {p:List Jd} {list:List Jk} {i:Nat} (h:Jbf l o way (list.take i) p=[]):Jbf l o way list p=[]:=by
 have:=Jkg l o way (list.take i) (list.drop i) p;rw [List.take_append_drop,h,Jtw] at this;exact this
theorem Je0 {l:Ja} (hj:l.Joints.length<=1048576) (hO:OkL l) {way:List Jb} (hv:Yv l way) {o:Int} (ho:-1073741824<=o/\o<=1073741824) {p:List Jd} (hp:Sy p) {list:List Jk} (hl:list.length<=1048576) :
  Yd list way o l p=some (Jbf l o way list p):=by
 suffices Is (Yd list way o l p) fun r=>r=Jbf l o way list p by obtain ⟨r,h,rfl⟩:=this; exact h
 unfold Yd Wz;have hpl:=hp.1;have hvl:=hv.2.1;obtain ⟨M,hM,hM2⟩:=Is.app (L:=([]:List Jd)) (ys:=p) (by simp only [List.length_nil,Jw,Enc.b]; omega);rw [hM];simp only [List.nil_append] at hM2;subst hM2;obtain ⟨b,hb,hbi⟩:=Ds M;obtain ⟨c,hc,hci⟩:=Ja8 l way hj (by omega);rw [hb,hc,hbi.2 hp,hci.2 hv,decide_eq_false (show ¬ o < -1073741824 by omega),decide_eq_false (show ¬ 1073741824<o by omega)];simp only [Option.bind_some,Bool.not_true,cond_false,Bool.or_self];refine Is.fold (L:=list) (mk:=fun i (m:List Jd)=>(i,m)) (fun i m=>m=Jbf l o way (list.take i) M) M (by omega) rfl (fun i r m hr hi hI=>?_) (fun m hI=>?_)
 ·subst hI;unfold Bp;have hat:Jbf l o way (list.take (i+1)) M=Jq6 l o way r (Jbf l o way (list.take i) M):=by rw [Zj hr,Jkg,Khg]
  refine Is.inb hi ?_;refine Is.onInl (θ:=fun z=>z=.inl (Jbf l o way (list.take (i+1)) M)\/(z=.inr (.inr (.inr []))/\Jbf l o way (list.take (i+1)) M=[])) (Is.at hr ?_) (fun v hv=>Is.val ?_) (fun b hb=>?_)
  ·refine Is.bind (φ:=fun b=>b=true↔r.Active=true/\Jnb l r) (Is.and Iff.rfl fun _=>Is.bind (Jen l r) fun c hc=>Is.dec ?_) fun b hb=>?_
   ·rcases hc with ⟨rfl,hc⟩|⟨rfl,hc⟩
    ·exact iff_of_true rfl hc
    ·exact iff_of_false (by omega) hc
   ·refine Is.ite hb (fun hy=>?_) (fun hn=>Is.val ?_)
    ·obtain ⟨q,hq,hq2⟩:=Jwf hO hv ho (Jbf l o way (list.take i) M) hy.2;unfold Ki9;rw [hq];have e1:Jbf l o way (list.take (i+1)) M=Si l r o way (Jbf l o way (list.take i) M):=by rw [hat]; unfold Jq6; rw [if_pos hy]
     rcases hq2 with rfl|⟨rfl,hz⟩
     ·exact Is.val (.inl (by rw [e1]))
     ·exact Is.val (.inr ⟨rfl,by rw [e1]; exact hz⟩)
    ·left; rw [hat]; unfold Jq6; rw [if_neg hn]
  ·rcases hv with hv|⟨hv,_⟩
   ·cases hv; exact ⟨_,rfl,rfl⟩
   ·cases hv
  ·rcases hb with hb|⟨hb,hz⟩
   ·cases hb
   ·cases hb; exact (Ke4 hz).symm
 ·subst hI;unfold Bp;refine Is.oub (Is.val ?_);rw [List.take_length];exact Is.val rfl
end PM
namespace PM
open Go Go.RowKit
noncomputable def Kau (l:Ja) (k:Jg) (list:List Jk):List Jd:=Jbf l k.Origin k.Steps list (ofP l k.Origin k.Steps)
theorem Kfj (l:Ja) (k:Jg) (list:List Jk):Sy (Kau l k list):=Jvn (Jy7 _ _ _)
end PM
namespace PM
open Go Go.RowKit
end PM
namespace PM
open Go Go.RowKit
section
variable {c:Int} {p q:List Jd}
variable {l:Ja} {r:Jk}
end
theorem Kgu {l:Ja} (h:Sm l) (hO:OkL l) {k:Jg} (hs:k.Steps.length<=100) (ho:-1073741824<=k.Origin/\k.Origin<=1073741824) {list:List Jk} (hl:list.length<=1048576) (seq:Int) :
  Is (Cc l k list seq) fun r=>r.1.Profile.length<=128/\(r.2=0->Yv l k.Steps/\AVal r.1/\r.1.End=k.At/\r.1.Profile=Jdh (Kau l k list) k.Origin k.At):=by
 unfold Cc;refine (Ja8 l k.Steps h.jo (by omega)).bind fun c hc=>?_;cases c with
 | false=>exact Is.val ⟨by simp,fun e=>by cases e⟩
 | true =>
  have hv:=hc.1 rfl;refine Is.cond (fun _=>Is.val ⟨by simp,fun e=>by cases e⟩) fun _=>?_;obtain ⟨M,m1,m2,m3⟩:=Jow h hO hv ho k.At;rw [Jov hO hv ho,Option.bind_some,Je0 h.jo hO hv ho (Jy7 _ _ _) hl,Option.bind_some];show Is ((Zr (Kau l k list) k.Origin k.At).bind _) _;have hpv:=Kfj l k list;have hpl:=hpv.1;have hcl:(Jdh (Kau l k list) k.Origin k.At).length<=(Kau l k list).length:=by unfold Jdh; rw [List.length_map]; exact List.length_filter_le _ _
  rw [Joa hpv,Option.bind_some,m1,Option.bind_some];refine (Jf9 (a:=⟨seq,k.At,Jdh (Kau l k list) k.Origin k.At,M⟩) (by dsimp only; omega)).bind fun b hb=>?_;cases b with
  | false=>exact Is.val ⟨by simp,fun e=>by cases e⟩
  | true=>exact Is.val ⟨by dsimp only; omega,fun _=>⟨hv,hb.1 rfl,rfl,rfl⟩⟩
end PM
namespace PM
open Go Go.RowKit
theorem Ja5 {α:Type} {b:Bool} {x y:α}:(bif b then some x else some y)=some (bif b then x else y):=by cases b <;> rfl
def Jic (l:Ja) (i:Int):Int:=bif Vf l i then ((l.Elements[i.toNat]?).map (·.Section)).getD (-1) else -1
theorem Jjb (l:Ja) (i:Int):Ym l i=some (Jic l i):=by
 unfold Ym Jic;simp only [Ja5,Option.bind_some,Bool.cond_true_left];have e:(decide (i<0)||decide (((l.Elements.length:Nat):Int)<=i)) = !Vf l i:=by
  unfold Vf; rw [Bool.eq_iff_iff]; simp
 rw [e];cases h:Vf l i with
 | false=>rfl
 | true =>
  obtain ⟨x,h2,h3⟩:=Yb h;simp [h2,h3]
theorem Fb (l:Ja) (i:Int):Wh l i=some (Jic l i):=by
 unfold Wh Jic;simp only [Ja5,Option.bind_some,Bool.cond_true_left];have e:(decide (i<0)||decide (((l.Elements.length:Nat):Int)<=i)) = !Vf l i:=by
  unfold Vf; rw [Bool.eq_iff_iff]; simp
 rw [e];cases h:Vf l i with
 | false=>rfl
 | true =>
  obtain ⟨x,h2,h3⟩:=Yb h;simp [h2,h3]
def Kf7 (l:Ja) (r:Ji):Kl×Bool :=
 bif decide (r.Exit<0)||decide (((l.Signals.length:Nat):Int)<=r.Exit) then (Kl.mk ByteArray.empty (Je.mk 0 0) 0,false)
 else ((l.Signals[r.Exit.toNat]?).getD (Kl.mk ByteArray.empty (Je.mk 0 0) 0),true)
theorem Jof (l:Ja) (r:Ji):Ig l r=some (Kf7 l r):=by
 unfold Ig Kf7;simp only [Ja5,Option.bind_some,Bool.cond_true_left];cases h:(decide (r.Exit<0)||decide (((l.Signals.length:Nat):Int)<=r.Exit)) with
 | true=>rfl
 | false =>
  simp only [Bool.or_eq_false_iff,decide_eq_false_iff_not] at h;obtain ⟨x,h2,h3⟩:=Is.ix (L:=l.Signals) (i:=r.Exit) (by omega) (by omega);simp [h2,h3]
def Kdg (o:List Jb) (e:Int):Bool:=decide (∃ x∈o,x.El=e)
def inS (L:List Int) (e:Int):Bool:=decide (e∈L)
theorem Jyb (l:Ja) (r:Ji) (o:List Jb) (e:Int) (h:o.length<=1048576) (hr:r.Sections.length<=1048576) :
  Bw l r o e=some (Kdg o e||inS r.Sections (Jic l e)):=by
 have:Is (Bw l r o e) fun b=>b=(Kdg o e||inS r.Sections (Jic l e)):=by
  unfold Bw;refine Is.all (L:=o) (fun _ x=>¬ x.El=e) () (by omega) (fun i x hx hi hI=>?_) ?_ (fun hn=>?_)
  ·unfold Fu;refine Is.inb hi (Is.at hx ?_);refine Is.ite Ky (fun hc=>Is.val ?_) (fun hc=>Is.val ⟨rfl,hc⟩);show true=_;rw [show Kdg o e=true from decide_eq_true ⟨x,List.mem_of_getElem? hx,hc⟩,Bool.true_or]
  ·simp [Fu]
  have hc:Kdg o e=false:=decide_eq_false (by
   rintro ⟨x,hx,hc⟩;obtain ⟨i,hi⟩:=List.getElem?_of_mem hx;exact hn i x hi hc)
  rw [hc,Bool.false_or];refine Is.all (L:=r.Sections) (fun _ x=>¬ x=Jic l e) () (by omega) (fun i x hx hi hI=>?_) ?_ (fun hn=>Is.val ?_)
  ·unfold Gi;refine Is.inb hi (Is.at hx ?_);rw [Fb,Option.bind_some];refine Is.ite Ky (fun hc=>Is.val ?_) (fun hc=>Is.val ⟨rfl,hc⟩);exact (decide_eq_true (hc▸List.mem_of_getElem? hx:Jic l e∈r.Sections)).symm
  ·simp [Gi]
  ·refine Eq.symm (decide_eq_false ?_);intro hx;obtain ⟨i,hi⟩:=List.getElem?_of_mem hx;exact hn i _ hi rfl
 obtain ⟨b,h1,h2⟩:=this;rw [h1,h2]
def ovR (r:Ji) (o:List Jb) (p:List Jf) (s:List Int):Ji :=
 Ji.mk r.Name r.Entry r.Exit r.Path r.Points r.Sections r.Approach r.Length o p s r.Flank r.Guards r.Gaps
structure FewR (r:Ji):Prop where
 pa:r.Path.length<=60
 ov:r.Over.length<=60
 se:r.Sections.length<=60
 os:r.OverSections.length<=60
 po:r.Points.length<=60
 op:r.OverPoints.length<=60
 fl:r.Flank.length<=60
 gu:r.Guards.length<=60
 ga:r.Gaps.length<=60
theorem Kfx (l:Ja):Jk0 l []=[]:=by
 have h:=Jmx l [];exact List.eq_nil_of_length_eq_zero (by simpa using h)
end PM
namespace PM
open Go Go.RowKit
def zAt (l:Ja) (way:List Jb) (i:Nat):Int:=Jic l (((way[i]?).map (·.El)).getD 0)
theorem Jyq {l:Ja} {way:List Jb} {i:Nat} {s:Jb} (h:way[i]? = some s):zAt l way i=Jic l s.El:=by
 unfold zAt; rw [h]; rfl
def Jnm (l:Ja) (way:List Jb):Nat->Nat
 | 0=>1
 | n+1=>if zAt l way (n+1)=zAt l way n then Jnm l way n else Jnm l way n+1
theorem Jp2 (l:Ja) (way:List Jb) (n:Nat):Jnm l way (n+1)=if zAt l way (n+1)=zAt l way n then Jnm l way n else Jnm l way n+1:=rfl
theorem Kab (l:Ja) (way:List Jb):∀ n,Jnm l way n<=n+1
 | 0=>Nat.le_refl _
 | n+1=>by
  have:=Kab l way n;unfold Jnm;split <;> omega
def Kjf (l:Ja) (e:Je) (way:List Jb):Prop :=
 (∃ s,way[0]? = some s/\s.El=e.El/\s.In=e.Side)/\way.length<=12/\Yv l way/\Jnm l way (way.length - 1)=(Ja6 l way).length
theorem Jxg (l:Ja) (way:List Jb) (h0:0<way.length) (h:way.length<=1000):Is (Js (Hg l way) (1,1)) fun o=>o=.inl ((Jnm l way (way.length - 1):Nat):Int):=by
 refine Is.loop (mk:=fun i (s:Int)=>(s,((i+1:Nat):Int))) (way.length - 1) (fun i s=>s=((Jnm l way i:Nat):Int)) (1:Int) rfl (fun i s hi hI=>?_) (fun s hI=>?_)
 ·have h1:i+1<way.length:=by omega
  have hc:=Kab l way i;simp only [Hg];rw [decide_eq_true (by omega),cond_true];refine Is.onInl (θ:=fun o=>o=.inl ((Jnm l way (i+1):Nat):Int)) ?_ ?_ (fun b hb=>by cases hb)
  ·refine Is.at (List.getElem?_eq_getElem h1) ?_;rw [Fb,Option.bind_some];have hw:w64 (((i+1:Nat):Int) - 1)=(i:Int):=by rw [Vc (by omega) (by omega)]; omega
   rw [hw];refine Is.at (List.getElem?_eq_getElem (show i<way.length by omega)) ?_;rw [Fb,Option.bind_some];have e1:=Jyq (l:=l) (List.getElem?_eq_getElem h1);have e2:=Jyq (l:=l) (List.getElem?_eq_getElem (show i<way.length by omega));rw [<- e1,<- e2];subst hI;refine Is.ifn Ky (fun hn=>Is.val ?_) (fun hn=>Is.val ?_)
   ·rw [Jp2,if_neg hn,Cv (by omega)]
   ·rw [Jp2,if_pos hn]
  ·rintro v hv;cases hv;refine Is.val ⟨_, ?_,rfl⟩;have hw:w64 (((i+1:Nat):Int)+1)=((i+1+1:Nat):Int):=by rw [Vc (by omega) (by omega)]; omega
   rw [hw]
 ·simp only [Hg];rw [decide_eq_false (by omega),cond_false];exact Is.val (by rw [hI])
theorem Keu (l:Ja) (hj:l.Joints.length<=1048576) (e:Je) (way:List Jb) (h:way.length<=1000):Is (Ib l e way) fun b=>b=true↔Kjf l e way:=by
 unfold Ib;refine Is.bind (Is.or Ky fun _=>Is.val Ky) fun b1 hb1=>?_;refine Is.bind (φ:=fun b=>b=true↔(¬ (0<way.length/\way.length<=12))\/∃ s,way[0]? = some s/\s.El≠e.El) (Is.ite hb1 (fun hp=>Is.val ?_) fun hp=>?_) fun b2 hb2=>?_
 ·exact ⟨fun _=>.inl (by omega),fun _=>rfl⟩
 ·have h0:0<way.length:=by omega
  refine Is.at (i:=0) (List.getElem?_eq_getElem h0) (Is.val ?_);rw [Bool.not_eq_true',decide_eq_false_iff_not];constructor
  ·exact fun hn=>.inr ⟨_,List.getElem?_eq_getElem h0,hn⟩
  ·rintro (hn|⟨s,hs,hn⟩)
   ·omega
   ·rw [List.getElem?_eq_getElem h0] at hs; cases hs; exact hn
 refine Is.bind (φ:=fun b=>b=true↔((¬ (0<way.length/\way.length<=12))\/∃ s,way[0]? = some s/\s.El≠e.El)\/∃ s,way[0]? = some s/\s.In≠e.Side) (Is.ite hb2 (fun hp=>Is.val ?_) fun hp=>?_) fun b4 hb4=>?_
 ·exact ⟨fun _=>.inl hp,fun _=>rfl⟩
 ·have h0:0<way.length:=by
   by_cases hh:0<way.length
   ·exact hh
   ·exact absurd (.inl fun q=>hh q.1) hp
  refine Is.at (i:=0) (List.getElem?_eq_getElem h0) (Is.val ?_);rw [Bool.not_eq_true',decide_eq_false_iff_not];constructor
  ·exact fun hn=>.inr ⟨_,List.getElem?_eq_getElem h0,hn⟩
  ·rintro (hn|⟨s,hs,hn⟩)
   ·exact absurd hn hp
   ·rw [List.getElem?_eq_getElem h0] at hs; cases hs; exact hn
 refine Is.bind (Is.or (q:=¬ Yv l way) hb4 fun _=>?_) fun b6 hb6=>?_
 ·exact (Jec l way hj (by omega)).bind fun r hr=>Is.val (Jmd hr)
 refine Is.ite hb6 (fun hp=>Is.val ?_) fun hp=>?_
 ·simp only [Bool.false_eq_true,false_iff];rintro ⟨⟨s,hs,h1,h2⟩,h3,h4,h5⟩;have h0:=Ue hs;rcases hp with ((hp|⟨t,ht,hp⟩)|⟨t,ht,hp⟩)|hp
  ·omega
  ·rw [hs] at ht; cases ht; exact hp h1
  ·rw [hs] at ht; cases ht; exact hp h2
  ·exact hp h4
 ·have h0:0<way.length/\way.length<=12:=by
   by_cases hh:0<way.length/\way.length<=12
   ·exact hh
   ·exact absurd (.inl (.inl (.inl hh))) hp
  refine Is.onInl (Jxg l way h0.1 h) (fun v hv=>?_) (fun b hb=>by cases hb);cases hv;rw [Pb l way (by omega),Option.bind_some];refine Is.val ?_;rw [decide_eq_true_iff];have hg:=List.getElem?_eq_getElem h0.1;constructor
  ·intro hc;refine ⟨⟨_,hg, ?_, ?_⟩,h0.2, ?_,by omega⟩
   ·by_cases hh:(way[0]'h0.1).El=e.El
    ·exact hh
    ·exact absurd (.inl (.inl (.inr ⟨_,hg,hh⟩))) hp
   ·by_cases hh:(way[0]'h0.1).In=e.Side
    ·exact hh
    ·exact absurd (.inl (.inr ⟨_,hg,hh⟩)) hp
   ·by_cases hh:Yv l way
    ·exact hh
    ·exact absurd (.inr hh) hp
  ·rintro ⟨_,_,_,hc⟩;omega
theorem Jom {l:Ja} (h:l.Signals.length<=1048576) (e:Je):Wc l e=some (Jak l.Signals e):=by
 have:Is (Wc l e) fun r=>r=Jak l.Signals e:=by
  unfold Wc;refine Is.all (L:=l.Signals) (fun _ x=>x.At≠e) () (by omega) (fun i x hx hi hI=>?_) ?_ (fun hn=>?_)
  ·unfold Zy;refine Is.inb hi (Is.at hx (Is.ite (Ng _ _) (fun hc=>Is.val ?_) fun hc=>Is.val ⟨rfl,hc⟩));exact (Jo7 hx hc hI).symm
  ·simp [Zy]
  ·refine Is.val (Jqi fun s hs=>?_).symm;obtain ⟨i,hi⟩:=List.getElem?_of_mem hs;exact hn i s hi
 obtain ⟨r,h1,rfl⟩:=this;exact h1
def Jtn (l:Ja) (b:Jb):Bool:=decide (0<=Jak l.Signals ⟨b.El,b.Out⟩) || !(Kw l ⟨b.El,b.Out⟩).2
theorem Jzq {l:Ja} (h:Sm l) (b:Jb):Cf l b=some (Jak l.Signals ⟨b.El,b.Out⟩,Jtn l b):=by
 unfold Cf Jtn;rw [Jom h.sg,Option.bind_some,Px h.jo,Option.bind_some]
theorem Jn1 (L:List Kl) (e:Je):Jak L e = -1\/(0<=Jak L e/\Jak L e<(L.length:Nat)):=by
 unfold Jak;cases h:L.findIdx? (fun s=>Kb s.At e) with
 | none=>exact .inl rfl
 | some i =>
  have:=(List.findIdx?_eq_some_iff_findIdx_eq.1 h).1;exact .inr ⟨by simp,by simp; omega⟩
open Classical in
noncomputable def Jv8 (l:Ja) (e:Je) (way:List Jb):Bool:=decide (Kjf l e way)
theorem Jm9 {l:Ja} {e:Je} {way:List Jb}:Jv8 l e way=true↔Kjf l e way:=by simp [Jv8]
theorem Kih {l:Ja} (hj:l.Joints.length<=1048576) (e:Je) {way:List Jb} (h:way.length<=1000):Ib l e way=some (Jv8 l e way):=by
 obtain ⟨b,h1,h2⟩:=Keu l hj e way h;rw [h1];congr 1;rw [Bool.eq_iff_iff,h2,Jm9]
noncomputable def Jj0 (l:Ja) (e:Je) (way:List Jb) (rest:Je->List Jb->List (List Jb)) (b:Jb):List (List Jb) :=
 bif Jv8 l e (way++[b]) then (bif Jtn l b then [way++[b]] else rest (Kw l ⟨b.El,b.Out⟩).1 (way++[b])) else []
noncomputable def Jah (l:Ja) (e:Je):Nat->Je->List Jb->List (List Jb)
 | 0,_,_=>[]
 | n+1,a,way=>(Fw l a).flatMap (Jj0 l e way (Jah l e n))
theorem Je1 (l:Ja) (e:Je) (n:Nat) (a:Je) (way:List Jb):Jah l e (n+1) a way=(Fw l a).flatMap (Jj0 l e way (Jah l e n)):=rfl
theorem Ja0 {l:Ja} {e:Je}:∀ {n:Nat} {a:Je} {way p:List Jb},p∈Jah l e n a way->Kjf l e p
 | 0,_,_,p,h=>by simp [Jah] at h
 | n+1,a,way,p,h=>by
  rw [Je1,List.mem_flatMap] at h;obtain ⟨b,_,h⟩:=h;unfold Jj0 at h;cases hf:Jv8 l e (way++[b]) with
  | false=>rw [hf] at h; cases h
  | true =>
   rw [hf,cond_true] at h;cases hz:Jtn l b with
   | true=>rw [hz,cond_true,List.mem_singleton] at h; subst h; exact Jm9.1 hf
   | false=>rw [hz,cond_false] at h; exact Ja0 h
theorem Rz {α β:Type} (f:α->List β) (k:Nat):∀ (L:List α),(∀ x∈L,(f x).length<=k)->(L.flatMap f).length<=L.length * k
 | [],_=>by simp
 | x::L,h=>by
  have h1:=h x (by simp);have h2:=Rz f k L fun y hy=>h y (by simp [hy]);rw [List.flatMap_cons,List.length_append,List.length_cons,Nat.succ_mul]; omega
theorem Jqa (l:Ja) (e:Je) (way:List Jb) (n:Nat) (rest:Je->List Jb->List (List Jb)) (h:∀ a w,(rest a w).length<=2 ^ n) (b:Jb):(Jj0 l e way rest b).length<=2 ^ n:=by
 have hp:1<=2 ^ n:=Nat.one_le_two_pow;unfold Jj0;cases Jv8 l e (way++[b]) with
 | false=>simp
 | true =>
  cases Jtn l b with
  | true=>simpa using hp
  | false=>exact h _ _
theorem Jgn (l:Ja) (e:Je):∀ (n:Nat) (a:Je) (way:List Jb),(Jah l e n a way).length<=2 ^ n
 | 0,_,_=>by simp [Jah]
 | n+1,a,way=>by
  have h1:=Rz (Jj0 l e way (Jah l e n)) (2 ^ n) (Fw l a) fun b _=>Jqa l e way n _ (Jgn l e n) b;rw [Je1];refine Nat.le_trans h1 ?_;rw [Nat.pow_succ,Nat.mul_comm];exact Nat.mul_le_mul_left _ (Jpm l a)
theorem Jpo {l:Ja} (hs:Sm l) (e:Je):∀ (n:Nat) (a0:Jm) (a:Je) (way:List Jb),way.length<=12->13<=n+way.length->a0.L.length+2 ^ (13 - way.length)<=1099511627776 ->
  Is (Vo n a0 l e a way) fun r=>r.L=a0.L++Jah l e (13 - way.length) a way
 | 0,_,_,way,h1,h2,_=>by omega
 | n+1,a0,a,way,h1,h2,h3=>by
  show Is (Vq (Vo n) a0 l e a way) _;unfold Vq;rw [Jap,Option.bind_some];have hb:=Jpm l a;have hp:2 ^ (13 - way.length)=2 * 2 ^ (12 - way.length):=by
   rw [show 13 - way.length=(12 - way.length)+1 by omega,Nat.pow_succ]; omega
  have hq:1<=2 ^ (12 - way.length):=Nat.one_le_two_pow;rw [show 13 - way.length=(12 - way.length)+1 by omega,Je1];generalize hg:Jj0 l e way (Jah l e (12 - way.length))=g;have hlen:∀ b,(g b).length<=2 ^ (12 - way.length):=fun b=>by rw [<- hg]; exact Jqa l e way _ _ (Jgn l e _) b
  refine Is.onInl (θ:=fun o=>o=.inl (a0.L++(Fw l a).flatMap g)) ?_ (fun v hv=>?_) (fun b hb=>by cases hb)
  ·refine Is.loop (mk:=fun i (s:List (List Jb))=>((i:Int),s)) (Fw l a).length (fun i s=>s=a0.L++((Fw l a).take i).flatMap g) a0.L (by simp) (fun i s hi hI=>?_) (fun s hI=>?_)
   ·have hi3:(i+1) * 2 ^ (12 - way.length)=i * 2 ^ (12 - way.length)+2 ^ (12 - way.length):=Nat.succ_mul _ _;have hi2:i * 2 ^ (12 - way.length)<=1 * 2 ^ (12 - way.length):=Nat.mul_le_mul_right _ (by omega);have hsl:s.length<=a0.L.length+i * 2 ^ (12 - way.length):=by
     have h4:=Rz g (2 ^ (12 - way.length)) ((Fw l a).take i) fun b _=>hlen b;rw [List.length_take,Nat.min_eq_left (by omega)] at h4;rw [hI,List.length_append]; omega
    have hx:=List.getElem?_eq_getElem hi;have htk:((Fw l a).take (i+1)).flatMap g=((Fw l a).take i).flatMap g++g (Fw l a)[i]:=by
     rw [List.take_add_one,hx,Option.toList_some,List.flatMap_append]; simp
    simp only [Zq];rw [decide_eq_true (by omega),cond_true];refine Is.onInl (θ:=fun o=>o=.inl (a0.L++((Fw l a).take (i+1)).flatMap g)) ?_ (fun v hv=>?_) (fun b hb=>by cases hb)
    ·refine Is.bind (Is.app (by simp only [List.length_nil,Jw,Enc.b]; omega)) fun M hM=>?_;rw [hM,List.nil_append];refine Is.at hx ?_;refine Is.bind (Is.app (by simp only [List.length_cons,List.length_nil,Jw,Enc.b]; omega)) fun M hM=>?_;subst hM;have hlen2:(way++[(Fw l a)[i]]).length=way.length+1:=by simp
     rw [htk,<- List.append_assoc,<- hI,<- hg];unfold Jj0;rw [Kih hs.jo e (by omega),Option.bind_some];cases hft:Jv8 l e (way++[(Fw l a)[i]]) with
     | false=>exact Is.val (by rw [cond_false,List.append_nil])
     | true =>
      simp only [Bool.not_true,cond_false,cond_true];refine Is.at hx ?_;rw [Jzq hs,Option.bind_some];show Is (bif Jtn l (Fw l a)[i] then _ else _) _;cases hend:Jtn l (Fw l a)[i] with
      | true =>
       simp only [cond_true];refine Is.bind (Is.app (by simp only [List.length_cons,List.length_nil,Jw,Enc.b]; omega)) fun M hM=>?_;subst hM;exact Is.val rfl
      | false =>
       simp only [cond_false];refine Is.at hx ?_;rw [Px hs.jo,Option.bind_some];have f2:=(Jm9.1 hft).2.1;refine (Jpo hs e n ⟨s⟩ _ _ f2 (by omega) (by show s.length+_<=_; rw [hlen2,show 13 - (way.length+1)=12 - way.length by omega]; omega)).bind fun r hr=>?_;rw [hlen2,show 13 - (way.length+1)=12 - way.length by omega] at hr;exact Is.val (by rw [hr])
    ·cases hv;exact Is.val ⟨_,by rw [Vc (by omega) (by omega)]; rfl,rfl⟩
   ·simp only [Zq];rw [decide_eq_false (by omega),cond_false];exact Is.val (by rw [hI,List.take_length])
  ·cases hv;exact Is.val rfl
end PM
namespace PM
open Go Go.RowKit
theorem Is.sadd {a b:ByteArray} (h:a.size+b.size<=9223372036854775807):Is (Jfz a b) fun M=>M=a++b:=⟨a++b,by unfold Jfz; rw [if_pos h],rfl⟩
def sgN (l:Ja) (i:Int):ByteArray:=((l.Signals[i.toNat]?).map (·.Name)).getD ByteArray.empty
def Kil : ByteArray:=ByteArray.mk #[45,101,110,100]
def Jzz : ByteArray:=ByteArray.mk #[45]
def Klp : ByteArray:=ByteArray.mk #[46]
def Jet (l:Ja) (i x:Int):ByteArray:=if x<0 then sgN l i++Kil else sgN l i++Jzz++sgN l x
theorem Jr7 {l:Ja} {i:Int} {y:Kl} (h:l.Signals[i.toNat]? = some y):sgN l i=y.Name:=by unfold sgN; rw [h]; rfl
theorem Jha {l:Ja} (h:Sm l) (i:Int):(sgN l i).size<=1048576:=by
 unfold sgN;cases hy:l.Signals[i.toNat]? with
 | none=>simp
 | some y=>exact h.sgn y (List.mem_of_getElem? hy)
theorem Jwy {l:Ja} (h:Sm l) (i x:Int):(Jet l i x).size<=3000000:=by
 have h1:=Jha h i;have h2:=Jha h x;have h3:Kil.size=4:=rfl;have h4:Jzz.size=1:=rfl;unfold Jet;split
 ·rw [ByteArray.size_append]; omega
 ·rw [ByteArray.size_append,ByteArray.size_append]; omega
theorem Jq2 {l:Ja} (h:Sm l) {i x:Int} (hi:0<=i/\i<(l.Signals.length:Nat)) (hx:x = -1\/(0<=x/\x<(l.Signals.length:Nat))):Wy l i x=some (Jet l i x):=by
 have:Is (Wy l i x) fun M=>M=Jet l i x:=by
  unfold Wy Jet;have h1:=Jha h i;have h2:=Jha h x;have h3:Kil.size=4:=rfl;have h4:Jzz.size=1:=rfl;refine Is.cond (fun h0=>?_) fun h0=>?_
  ·rw [if_pos (of_decide_eq_true h0)];refine (Is.ix hi.1 hi.2).bind fun y hy=>?_;rw [<- Jr7 hy];exact (Is.sadd (b:=Kil) (by rw [h3]; omega)).bind fun M hM=>Is.val hM
  ·rw [if_neg (of_decide_eq_false h0)];have h0:=of_decide_eq_false h0;refine (Is.ix hi.1 hi.2).bind fun y hy=>?_;rw [<- Jr7 hy];refine (Is.sadd (b:=Jzz) (by rw [h4]; omega)).bind fun M hM=>?_;have hM1:M.size=(sgN l i).size+1:=by rw [hM,ByteArray.size_append,h4]
   refine (Is.ix (by omega) (by omega)).bind fun z hz=>?_;rw [<- Jr7 hz];exact (Is.sadd (by omega)).bind fun M' hM'=>Is.val (by rw [hM',hM])
 obtain ⟨M,h1,rfl⟩:=this;exact h1
theorem Jwe {n:Int} (h0:0<=n) (h1:n<1000000):Is (Ze n) fun M=>M.size<=6:=by
 unfold Ze;refine Is.onInl (θ:=fun o=>∃ M,o=.inl M/\M.size<=6) ?_ (fun v hv=>?_) (fun b hb=>by obtain ⟨x,hx,_⟩:=hb; cases hx)
 ·refine Is.loop (mk:=fun _ (s:Int×ByteArray)=>s) 6 (fun i s=>0<=s.1/\s.1<10 ^ (6 - i)/\s.2.size<=i) (n,ByteArray.empty) ⟨h0,h1,Nat.le_refl _⟩ (fun i s hi hI=>?_) (fun s hI=>?_)
  ·obtain ⟨x,b⟩:=s;obtain ⟨g1,g2,g3⟩:=hI;simp only at g1 g2 g3;simp only [Fs];refine Is.cond (fun hx=>?_) fun _=>Is.val ⟨b,rfl,by omega⟩;have hx:=of_decide_eq_true hx;have hs:∀ y:Int,(bytesOf [y]).size=1:=fun y=>rfl;have hp:(10:Int) ^ (6 - i)=10 ^ (6 - (i+1)) * 10:=by rw [show 6 - i=(6 - (i+1))+1 by omega,Int.pow_succ]
   have hle:(10:Int) ^ (6 - i)<=1000000:=by
    have:i=0\/i=1\/i=2\/i=3\/i=4\/i=5:=by omega
    rcases this with rfl|rfl|rfl|rfl|rfl|rfl <;> decide
   refine (Is.sadd (by rw [hs]; omega)).bind fun M hM=>Is.val ⟨(w64 (x.tdiv 10),M),rfl, ?_⟩;have hd:x.tdiv 10=x / 10:=Int.tdiv_eq_ediv_of_nonneg g1;have hw:w64 (x.tdiv 10)=x / 10:=by rw [hd]; exact Vc (by omega) (by omega)
   refine ⟨by simp only [hw]; omega,by simp only [hw]; omega, ?_⟩;simp only [hM,ByteArray.size_append,hs]; omega
  ·obtain ⟨x,b⟩:=s;obtain ⟨g1,g2,g3⟩:=hI;simp only at g1 g2 g3;simp only [Fs];rw [decide_eq_false (by simp at g2; omega),cond_false];exact Is.val ⟨b,rfl,g3⟩
 ·obtain ⟨M,e1,e2⟩:=hv;cases e1;exact Is.val e2
noncomputable def Kiy (n:Nat):ByteArray:=(Ze (n:Int)).getD ByteArray.empty
theorem Jx8 {n:Nat} (h:n<1000000):Ze (n:Int)=some (Kiy n)/\(Kiy n).size<=6:=by
 obtain ⟨M,h1,h2⟩:=Jwe (n:=(n:Int)) (by omega) (by omega);unfold Kiy;rw [h1];exact ⟨rfl,h2⟩
def Jzx (p:List Jb):Je:=match p.getLast? with|some s=>⟨s.El,s.Out⟩|none=>⟨0,0⟩
def Lk (l:Ja) (p:List Jb):Int:=Jak l.Signals (Jzx p)
def Cq (P:List (List Jb)) (k:Nat):List Jb:=(P[k]?).getD []
def Jk2 (l:Ja) (i:Int) (P:List (List Jb)) (x:Int):Nat->Nat
 | 0=>1
 | k+1=>if Jet l i (Lk l (Cq P k))=Jet l i x then Jk2 l i P x k+1 else Jk2 l i P x k
theorem Jpu (l:Ja) (i:Int) (P:List (List Jb)) (x:Int) (k:Nat):Jk2 l i P x (k+1)=if Jet l i (Lk l (Cq P k))=Jet l i x then Jk2 l i P x k+1 else Jk2 l i P x k:=rfl
theorem Jqp (l:Ja) (i:Int) (P:List (List Jb)) (x:Int):∀ k,Jk2 l i P x k<=k+1
 | 0=>Nat.le_refl _
 | k+1=>by
  have:=Jqp l i P x k;rw [Jpu];split <;> omega
noncomputable def Kem (l:Ja) (i:Int) (P:List (List Jb)) (k:Nat):ByteArray :=
 if 1<Jk2 l i P (Lk l (Cq P k)) k then Jet l i (Lk l (Cq P k))++Klp++Kiy (Jk2 l i P (Lk l (Cq P k)) k) else Jet l i (Lk l (Cq P k))
def atS (l:Ja) (i:Int):Je:=((l.Signals[i.toNat]?).map (·.At)).getD ⟨0,0⟩
noncomputable def Jwb (l:Ja) (i:Int) (P:List (List Jb)) (k:Nat):Ji :=
 Ji.mk (Kem l i P k) i (Lk l (Cq P k)) (Cq P k) (Jk0 l (Cq P k)) (Ja6 l (Cq P k)) (Jic l (atS l i).El) (w64 (Wg l (Cq P k))) [] [] [] [] [] []
noncomputable def Jh8 (l:Ja) (i:Int):List (List Jb):=Jah l (Kw l (atS l i)).1 13 (Kw l (atS l i)).1 []
noncomputable def Jej (l:Ja) (i:Int):List Ji :=
 if 0<=i/\i<(l.Signals.length:Nat) then (if (Kw l (atS l i)).2=true then (List.range (Jh8 l i).length).map (Jwb l i (Jh8 l i)) else []) else []
theorem Jm2 (l:Ja) (i:Int):(Jh8 l i).length<=8192:=Jgn l _ 13 _ _
theorem Jqj (l:Ja) (i:Int):(Jej l i).length<=8192:=by
 have:=Jm2 l i;unfold Jej;split
 ·split
  ·simpa using this
  ·simp
 ·simp
theorem Jfh {P:List (List Jb)} {k:Nat} (h:k<P.length):P[k]? = some (Cq P k):=by
 unfold Cq; rw [List.getElem?_eq_getElem h]; rfl
theorem Jy5 {p:List Jb} (h:0<p.length) (h2:p.length<=1000):∃ s,p.getLast? = some s/\ixO p (w64 (((p.length:Nat):Int) - 1))=some s:=by
 have hw:w64 (((p.length:Nat):Int) - 1)=((p.length - 1:Nat):Int):=by rw [Vc (by omega) (by omega)]; omega
 rw [hw,List.getLast?_eq_getElem?];have:=List.getElem?_eq_getElem (l:=p) (i:=p.length - 1) (by omega);exact ⟨_,this,Zb this⟩
theorem Jo3 {l:Ja} (h:Sm l) {p:List Jb} {s:Jb} (hs:p.getLast? = some s):Cf l s=some (Lk l p,Jtn l s):=by
 rw [Jzq h];unfold Lk Jzx;rw [hs]
theorem Khe {l:Ja} (h:Sm l) {i:Int} (hi:0<=i/\i<(l.Signals.length:Nat)) {P:List (List Jb)} (hP:∀ p∈P,0<p.length/\p.length<=12) (r:Jm) (hr:r.L=P) (k:Nat) (hk:k<P.length) (hk2:P.length<=8192) (x:Int) (z:Bool) (hx:x = -1\/(0<=x/\x<(l.Signals.length:Nat))) :
  Is (Js (Gv l i r (k:Int) (x,z)) (1,0)) fun o=>o=.inl ((Jk2 l i P x k:Nat):Int):=by
 refine Is.loop (mk:=fun j (s:Int)=>(s,(j:Int))) k (fun j s=>s=((Jk2 l i P x j:Nat):Int)) (1:Int) rfl (fun j s hj hI=>?_) (fun s hI=>?_)
 ·have hc:=Jqp l i P x j;have hjP:j<P.length:=by omega
  have hN:(((r.L:List (List Jb)).map cellsOf).length)=P.length:=by rw [List.length_map,hr]
  simp only [Gv];rw [decide_eq_true (by omega),cond_true];refine Is.onInl (θ:=fun o=>o=.inl ((Jk2 l i P x (j+1):Nat):Int)) ?_ (fun v hv=>?_) (fun b hb=>by cases hb)
  ·have hg:=Jfh hjP;have hld:Vi r.L (((r.L:List (List Jb)).map cellsOf).length) j=some (Cq P j):=by rw [Jyt (by rw [List.length_map]),hr]; exact hg
   have hxi:Wt 0 (((r.L:List (List Jb)).map cellsOf).length) (j:Int)=some j:=by rw [Jt1 0 (by rw [hN]; exact hjP),Nat.zero_add]
   have hp:=hP _ (List.mem_of_getElem? hg);obtain ⟨s1,e1,e2⟩:=Jy5 hp.1 (by omega);simp only [hxi,hld,Option.bind_some];rw [e2,Option.bind_some,Jo3 h e1,Option.bind_some];have hex:Lk l (Cq P j) = -1\/(0<=Lk l (Cq P j)/\Lk l (Cq P j)<(l.Signals.length:Nat)):=Jn1 l.Signals (Jzx (Cq P j));show Is ((Wy l i (Lk l (Cq P j))).bind _) _;rw [Jq2 h hi hex,Option.bind_some];show Is ((Wy l i x).bind _) _;rw [Jq2 h hi hx,Option.bind_some,Jpu];refine Is.ite Ky (fun he=>Is.val ?_) (fun he=>Is.val ?_)
   ·rw [if_pos he,hI,Cv (by omega)]
   ·rw [if_neg he,hI]
  ·cases hv;exact Is.val ⟨_,by rw [Cv (by omega)],rfl⟩
 ·simp only [Gv];rw [decide_eq_false (by omega),cond_false];exact Is.val (by rw [hI])
theorem Kh5 {l:Ja} (h:Sm l) (i:Int):Hy l i=some (Jej l i):=by
 have:Is (Hy l i) fun r=>r=Jej l i:=by
  unfold Hy;refine Is.bind (φ:=fun b=>b=true↔(i<0\/((l.Signals.length:Nat):Int)<=i)) (Is.or Ky fun _=>Is.val Ky) fun b hb=>?_;refine Is.ite hb (fun hp=>Is.val ?_) fun hp=>?_
  ·unfold Jej; rw [if_neg (by omega)]
  have hi:0<=i/\i<(l.Signals.length:Nat):=by omega
  refine (Is.ix hi.1 hi.2).bind fun y hy=>?_;have hat:atS l i=y.At:=by unfold atS; rw [hy]; rfl
  rw [Vk h.jo,Option.bind_some,<- hat];unfold Jej;rw [if_pos hi];cases hj:(Kw l (atS l i)).2 with
  | false=>exact Is.val (by rw [if_neg (by simp)])
  | true =>
   rw [if_pos rfl];simp only [Bool.not_true,cond_false];have hse:=Jpo h (Kw l (atS l i)).1 (Ri+1) ⟨[]⟩ (Kw l (atS l i)).1 [] (by simp) (by unfold Ri; simp) (by simp);have hse:Is (Gp ⟨[]⟩ l (Kw l (atS l i)).1 (Kw l (atS l i)).1 []) _:=hse;refine hse.bind fun r hr=>?_;have hr:r.L=Jh8 l i:=hr;have hPl:=Jm2 l i;have hP:∀ p∈Jh8 l i,0<p.length/\p.length<=12:=fun p hp=>by
    obtain ⟨⟨s,hs,_⟩,h2,_⟩:=Ja0 hp;exact ⟨Ue hs,h2⟩
   generalize Jh8 l i=P at hr hPl hP;have hN:(((r.L:List (List Jb)).map cellsOf).length)=P.length:=by rw [List.length_map,hr]
   refine Is.onInl (θ:=fun o=>o=.inl ((List.range P.length).map (Jwb l i P))) ?_ (fun v hv=>?_) (fun b hb=>by cases hb)
   ·refine Is.loop (mk:=fun k (s:List Ji)=>((k:Int),s)) P.length (fun k s=>s=(List.range k).map (Jwb l i P)) [] rfl (fun k s hk hI=>?_) (fun s hI=>?_)
    ·have hg:=Jfh hk;have hsl:s.length=k:=by rw [hI]; simp
     have hld:Vi r.L (((r.L:List (List Jb)).map cellsOf).length) k=some (Cq P k):=by rw [Jyt (by rw [List.length_map]),hr]; exact hg
     have hxi:Wt 0 (((r.L:List (List Jb)).map cellsOf).length) (k:Int)=some k:=by rw [Jt1 0 (by rw [hN]; exact hk),Nat.zero_add]
     have hp:=hP _ (List.mem_of_getElem? hg);obtain ⟨s1,e1,e2⟩:=Jy5 hp.1 (by omega);have hex:Lk l (Cq P k) = -1\/(0<=Lk l (Cq P k)/\Lk l (Cq P k)<(l.Signals.length:Nat)):=Jn1 l.Signals (Jzx (Cq P k));have hc:=Jqp l i P (Lk l (Cq P k)) k;have hts:=Jwy h i (Lk l (Cq P k));simp only [Oj];rw [decide_eq_true (by rw [hN]; omega),cond_true,hxi,Option.bind_some,hld,Option.bind_some,e2,Option.bind_some,Jo3 h e1,Option.bind_some];show Is ((Wy l i (Lk l (Cq P k))).bind _) _;rw [Jq2 h hi hex,Option.bind_some,Jaw l _ (by omega),Option.bind_some,Pb l _ (by omega),Option.bind_some,Jc9 l _ (by omega),Option.bind_some];refine (Is.eq (show ixO l.Signals i=some y from ?_)).bind fun y' hy'=>?_
     ·have:=Is.ix (L:=l.Signals) hi.1 hi.2;obtain ⟨z,z1,z2⟩:=this;rw [hy] at z2; cases z2; exact z1
     subst hy';rw [Fb,Option.bind_some];refine Is.onInl (Khe h hi hP r hr k hk hPl (Lk l (Cq P k)) _ hex) (fun v hv=>?_) (fun b hb=>by cases hb);cases hv;refine Is.onInl (θ:=fun o=>o=.inl (Kem l i P k)) ?_ (fun v hv=>?_) (fun b hb=>by cases hb)
     ·unfold Kem;refine Is.cond (fun h1=>?_) fun h1=>?_
      ·have h1:=of_decide_eq_true h1;rw [if_pos (by omega)];have h4:Klp.size=1:=rfl;refine (Is.sadd (b:=Klp) (by rw [h4]; omega)).bind fun M hM=>?_;have hM1:M.size<=3000001:=by rw [hM,ByteArray.size_append,h4]; omega
       obtain ⟨d1,d2⟩:=Jx8 (n:=Jk2 l i P (Lk l (Cq P k)) k) (by omega);rw [d1,Option.bind_some];refine (Is.sadd (by omega)).bind fun M' hM'=>Is.val ?_;rw [hM',hM]
      ·have h1:=of_decide_eq_false h1;rw [if_neg (by omega)];exact Is.val rfl
     ·cases hv;refine (Is.app (by simp only [List.length_cons,List.length_nil,Jw,Enc.b]; omega)).bind fun M hM=>?_;refine Is.val ⟨_,by rw [Cv (by omega)], ?_⟩;rw [hM,hI,List.range_succ,List.map_append,<- hat]
      rfl
    ·simp only [Oj];rw [decide_eq_false (by rw [hN]; omega),cond_false];exact Is.val (by rw [hI])
   ·cases hv;exact Is.val rfl
 obtain ⟨r,h1,rfl⟩:=this;exact h1
noncomputable def Jkx (l:Ja):List Ji:=(List.range l.Signals.length).flatMap fun i=>Jej l (i:Nat)
theorem Kfg {l:Ja} (h:Sm l):Mv l=some (if chk l=0 then (if 48<(Jkx l).length then ([],2) else (Jkx l,0)) else ([],chk l)):=by
 have:Is (Mv l) fun r=>r=(if chk l=0 then (if 48<(Jkx l).length then ([],2) else (Jkx l,0)) else ([],chk l)):=by
  unfold Mv;rw [Jmv h,Option.bind_some];refine Is.ifn Ky (fun h0=>Is.val (by rw [if_neg h0])) fun h0=>?_;rw [if_pos h0];have hsg:=h.sg;refine Is.onInl (θ:=fun o=>o=.inl (Jkx l)) ?_ (fun v hv=>?_) (fun b hb=>by cases hb)
  ·refine Is.loop (mk:=fun k (s:List Ji)=>((k:Int),s)) l.Signals.length (fun k s=>s=(List.range k).flatMap fun i=>Jej l (i:Nat)) [] rfl (fun k s hk hI=>?_) (fun s hI=>?_)
   ·have hsl:=Rz (fun i:Nat=>Jej l (i:Int)) 8192 (List.range k) fun i _=>Jqj l _;rw [<- hI,List.length_range] at hsl;have hf:=Jqj l (k:Int);simp only [Rh];rw [decide_eq_true (by omega),cond_true,Kh5 h,Option.bind_some];refine (Is.app (by simp only [Jw,Enc.b]; omega)).bind fun M hM=>?_;refine Is.val ⟨_,by rw [Cv (by omega)], ?_⟩;rw [hM,hI,List.range_succ,List.flatMap_append]; simp
   ·simp only [Rh];rw [decide_eq_false (by omega),cond_false];exact Is.val (by rw [hI]; rfl)
  ·cases hv;refine Is.cond (fun h1=>Is.val ?_) fun h1=>Is.val ?_
   ·have h1:=of_decide_eq_true h1;rw [if_pos (by omega)]
   ·have h1:=of_decide_eq_false h1;rw [if_neg (by omega)]
 obtain ⟨r,h1,rfl⟩:=this;exact h1
end PM
namespace PM
open Go Go.RowKit
def stO (l:Ja) (a:Je×Bool) (o:List Jb):Je×Bool:=match o.getLast? with|some s=>Kw l ⟨s.El,s.Out⟩|none=>a
def Kjv (l:Ja) (S:List Int) (lim:Int) (a:Je×Bool) (o:List Jb):Bool :=
 (stO l a o).2&&decide (w64 (Wg l o)<lim)&&decide (o.length<12) && !(Kdg o (stO l a o).1.El||inS S (Jic l (stO l a o).1.El)) && !(Fw l (stO l a o).1).isEmpty
def OvI (l:Ja) (S:List Int) (lim:Int) (a:Je×Bool) (o:List Jb):Prop :=
 ∀ i s,o[i]? = some s->Kjv l S lim a (o.take i)=true/\(Fw l (stO l a (o.take i)).1).head? = some s
structure Ov (l:Ja) (S:List Int) (lim:Int) (a:Je×Bool) (o:List Jb):Prop where
 step:OvI l S lim a o
 stop:Kjv l S lim a o=false
structure RtOK (l:Ja) (r:Ji):Prop where
 ex:r.Exit = -1\/(0<=r.Exit/\r.Exit<(l.Signals.length:Nat))
 p0:0<r.Path.length
 p1:r.Path.length<=12
 se:r.Sections=Ja6 l r.Path
 po:r.Points=Jk0 l r.Path
 fl:r.Flank=[]
 gu:r.Guards=[]
 ga:r.Gaps=[]
theorem Khn {l:Ja} {r:Ji} (h:r∈Jkx l):RtOK l r:=by
 unfold Jkx at h;rw [List.mem_flatMap] at h;obtain ⟨i,hi,h⟩:=h;unfold Jej at h;split at h
 ·split at h
  ·rw [List.mem_map] at h;obtain ⟨k,hk,rfl⟩:=h;rw [List.mem_range] at hk;have hg:=Jfh hk;obtain ⟨⟨s,hs,_⟩,h2,_⟩:=Ja0 (List.mem_of_getElem? hg);exact ⟨Jn1 _ _,Ue hs,h2,rfl,rfl,rfl,rfl,rfl⟩
  ·cases h
 ·cases h
structure OvStep (l:Ja) (S:List Int) (lim:Int) (a:Je×Bool) (o:List Jb) (i:Nat) (s:Jb):Prop where
 on:(stO l a (o.take i)).2=true
 el:s.El=(stO l a (o.take i)).1.El
 si:s.In=(stO l a (o.take i)).1.Side
 po:(Jcc l s).2=true
 hd:(Fw l (stO l a (o.take i)).1).head? = some s
 lt:w64 (Wg l (o.take i))<lim
 cov:∀ k t,k<i->o[k]? = some t->t.El≠s.El
 sec:Jic l s.El∉S
end PM
namespace PM
open Go Go.RowKit
def ovB (L:List Jb) (e:Int):Bool:=decide (∃ x∈L,x.El=e)
def Jl9 (L:List Jf) (x:Jf):Bool:=decide (x∈L)
def Pk (r:Ji) (e:Int):Bool:=ovB r.Path e||ovB r.Over e
def Jj7 (r:Ji) (x:Jf):Bool:=Jl9 r.Points x||Jl9 r.OverPoints x||Jl9 r.Flank x
theorem Jpy (x y:Jf):Wo x y=true↔x=y:=by
 cases x; cases y; simp [Wo]
theorem Py (o:List Jb) (e:Int) (h:o.length<=1048576):Zl o e=some (ovB o e):=by
 have:Is (Zl o e) fun b=>b=ovB o e:=by
  unfold Zl;refine Is.all (L:=o) (fun _ x=>¬ x.El=e) () (by omega) (fun i x hx hi hI=>?_) ?_ (fun hn=>Is.val ?_)
  ·unfold Om;refine Is.inb hi (Is.at hx ?_);refine Is.ite Ky (fun hc=>Is.val ?_) (fun hc=>Is.val ⟨rfl,hc⟩);exact (decide_eq_true (⟨x,List.mem_of_getElem? hx,hc⟩:∃ x∈o,x.El=e)).symm
  ·simp [Om]
  ·refine Eq.symm (decide_eq_false ?_);rintro ⟨x,hx,hc⟩;obtain ⟨i,hi⟩:=List.getElem?_of_mem hx;exact hn i x hi hc
 obtain ⟨b,h1,h2⟩:=this;rw [h1,h2]
theorem Tl (L:List Jf) (e:Jf) (h:L.length<=1048576):Ci L e=some (Jl9 L e):=by
 have:Is (Ci L e) fun b=>b=Jl9 L e:=by
  unfold Ci;refine Is.all (L:=L) (fun _ x=>¬ x=e) () (by omega) (fun i x hx hi hI=>?_) ?_ (fun hn=>Is.val ?_)
  ·unfold Pu;refine Is.inb hi (Is.at hx ?_);refine Is.ite (Jpy _ _) (fun hc=>Is.val ?_) (fun hc=>Is.val ⟨rfl,hc⟩);exact (decide_eq_true (hc▸List.mem_of_getElem? hx:e∈L)).symm
  ·simp [Pu]
  ·refine Eq.symm (decide_eq_false ?_);intro hx;obtain ⟨i,hi⟩:=List.getElem?_of_mem hx;exact hn i e hi rfl
 obtain ⟨b,h1,h2⟩:=this;rw [h1,h2]
structure Jgo (r:Ji):Prop where
 path:r.Path.length<=1000
 over:r.Over.length<=1000
 pts:r.Points.length<=1000
 ops:r.OverPoints.length<=1000
 flank:r.Flank.length<=1000
 secs:r.Sections.length<=1000
 osecs:r.OverSections.length<=1000
 guards:r.Guards.length<=1000
 gaps:r.Gaps.length<=1000
theorem Jxm {r:Ji} (h:Jgo r) (e:Int):((Zl r.Path e).bind fun r30=>((bif r30 then some true else ((Zl r.Over e).bind fun r32=>some r32)):Option Bool))=some (Pk r e):=by
 have:=h.path; have:=h.over;rw [Py _ _ (by omega),Py _ _ (by omega)];simp only [Option.bind_some,Ja5,Bool.cond_true_left]; rfl
theorem Jea {r:Ji} (h:Jgo r) (x:Jf):Ix r x=some (Jj7 r x):=by
 have:=h.pts; have:=h.ops; have:=h.flank;unfold Ix;rw [Tl _ _ (by omega),Tl _ _ (by omega),Tl _ _ (by omega)];simp only [Option.bind_some,Ja5,Bool.cond_true_left]; rfl
theorem Em {l:Ja} (h:l.Signals.length<=1048576) (e:Je):Wc l e=some (Jak l.Signals e):=by
 have:Is (Wc l e) fun r=>r=Jak l.Signals e:=by
  unfold Wc;refine Is.all (L:=l.Signals) (fun _ x=>x.At≠e) () (by omega) (fun i x hx hi hI=>?_) ?_ (fun hn=>?_)
  ·unfold Zy;refine Is.inb hi (Is.at hx (Is.ite (Ng _ _) (fun hc=>Is.val ?_) fun hc=>Is.val ⟨rfl,hc⟩));exact (Jo7 hx hc hI).symm
  ·simp [Zy]
  ·refine Is.val (Jqi fun s hs=>?_).symm;obtain ⟨i,hi⟩:=List.getElem?_of_mem hs;exact hn i s hi
 obtain ⟨r,h1,rfl⟩:=this;exact h1
def z0 : Jf:=⟨0,0⟩
def Jeh (l:Ja) (i:Int):Int:=((l.Elements[i.toNat]?).map (·.Kind)).getD 0
def Jlc (k a:Int):Int:=(Jmn k a).headD 0
def Jgv (l:Ja) (P:Int->Bool) (N:Jf->Bool):Nat->Je->Jf×Int×Bool
 | 0,_=>(z0,-1,false)
 | n+1,e =>
  if (Kw l e).2=false then (z0,-1,true) else
  if 0<=Jak l.Signals (Kw l e).1 then (z0,Jak l.Signals (Kw l e).1,true) else
  if P (Kw l e).1.El=true then (z0,-1,true) else
  if Jeh l (Kw l e).1.El=2 then
   (if (Kw l e).1.Side=0 then (z0,-1,false) else if N ⟨(Kw l e).1.El,(Kw l e).1.Side⟩=true then (z0,-1,false) else (⟨(Kw l e).1.El,3 - (Kw l e).1.Side⟩,-1,true))
  else Jgv l P N n ⟨(Kw l e).1.El,Jlc (Jeh l (Kw l e).1.El) (Kw l e).1.Side⟩
structure Kl3 (l:Ja) (f:Je) (x:Ju):Prop where
 has:Vf l f.El=true
 ix:ixO l.Elements f.El=some x
 get:l.Elements[f.El.toNat]? = some x
 kind:Jeh l f.El=x.Kind
 kinds:x.Kind=1/\(f.Side=0\/f.Side=1)\/x.Kind=2/\(f.Side=0\/f.Side=1\/f.Side=2)\/x.Kind=3/\(f.Side=0\/f.Side=1\/f.Side=2\/f.Side=3)
theorem OkL.joins {l:Ja} (hl:OkL l):Jsl l:=⟨fun j hj=>⟨(hl.joint j hj).1,(hl.joint j hj).2.1⟩,hl.ends⟩
theorem Jn4 {l:Ja} (hl:OkL l) {e:Je} (h:(Kw l e).2=true):∃ x,Kl3 l (Kw l e).1 x:=by
 have hex:exS l (Kw l e).1=true:=Jtr hl.joins (e:=e) (f:=(Kw l e).1) (by rw [<- h]);have hh:=Jr6 hex;obtain ⟨x,h1,h2⟩:=Yb hh;have hr:=hl.elem.1 x (List.mem_of_getElem? h2);refine ⟨x,hh,h1,h2,by simp [Jeh,h2], ?_⟩;simp only [exS,h2,Bool.and_eq_true,decide_eq_true_eq] at hex;obtain ⟨⟨_,hs⟩,ht⟩:=hex;have hk:=hr.1;unfold Jba at ht;rcases (show x.Kind=1\/x.Kind=2\/x.Kind=3 by omega) with e1|e1|e1 <;> simp only [e1] at ht ⊢ <;> simp at ht ⊢ <;> omega
theorem Jya {k a:Int} (h:k=1/\(a=0\/a=1)\/k=3/\(a=0\/a=1\/a=2\/a=3)):Jan k a 0=some (Jlc k a,true):=by
 rcases h with ⟨rfl,rfl|rfl⟩|⟨rfl,rfl|rfl|rfl|rfl⟩ <;> kernel_rfl
theorem Kls {r:Ji} (h:Jgo r) {f:Je} (hs:f.Side=1\/f.Side=2) :
  Sb r f=some (if Jj7 r ⟨f.El,f.Side⟩=true then (z0,-1,false) else (⟨f.El,3 - f.Side⟩,-1,true)):=by
 unfold Sb;rcases hs with hs|hs
 ·simp only [hs,show decide ((1:Int)=2)=false from rfl,cond_false,onInl,Vs,Option.bind_some,Jea h];cases hn:Jj7 r ⟨f.El,1⟩ <;> simp [z0]
 ·simp only [hs,show decide ((2:Int)=2)=true from rfl,cond_true,onInl,Vs,Option.bind_some,Jea h];cases hn:Jj7 r ⟨f.El,2⟩ <;> simp [z0,Vs,hn]
section
variable {l:Ja} (hs:Sm l) (hl:OkL l) {r:Ji} (hr:Jgo r)
include hs hl hr
theorem Jwj : ∀ (n i:Nat) (e:Je),i+n=4 ->
  onInl (α:=Unit) (β:=(Jf×Int×Bool)) (Js (Qi l r) ((i:Int),e.El,e.Side)) (fun _=>some (z0,-1,false))=some (Jgv l (Pk r) (Jj7 r) n e):=by
 intro n;induction n with
 | zero =>
  intro i e hi;have:i=4:=by omega
  subst this;have hstep:Qi l r ((4:Nat),e.El,e.Side)=some (.inr (.inl ())):=rfl;rw [Qk hstep]; rfl
 | succ n ih =>
  intro i e hi;have hi4:decide ((i:Int)<4)=true:=decide_eq_true (by omega);have hov:=Jxm hr (Kw l e).1.El;unfold Jgv
  by_cases hj:(Kw l e).2=false
  ·have hstep:Qi l r ((i:Int),e.El,e.Side)=some (.inr (.inr (z0,-1,true))):=by
    unfold Qi;simp only [hi4,cond_true,Vk hs.jo,Option.bind_some,hj,Bool.not_false,cond_true]; rfl
   rw [Qk hstep,if_pos hj]; rfl
  ·have hj':(Kw l e).2=true:=by simpa using hj
   obtain ⟨x,hx⟩:=Jn4 hl hj';rw [if_neg hj]
   by_cases hg:0<=Jak l.Signals (Kw l e).1
   ·have hstep:Qi l r ((i:Int),e.El,e.Side)=some (.inr (.inr (z0,Jak l.Signals (Kw l e).1,true))):=by
     unfold Qi;simp only [hi4,cond_true,Vk hs.jo,Option.bind_some,hj',Bool.not_true,cond_false,Em hs.sg,decide_eq_true hg]; rfl
    rw [Qk hstep,if_pos hg]; rfl
   ·rw [if_neg hg];have hg':decide (0<=Jak l.Signals (Kw l e).1)=false:=decide_eq_false hg;have hpa:=hr.path;have hpo:=hr.over;have o1:=Py r.Path (Kw l e).1.El (by omega);have o2:=Py r.Over (Kw l e).1.El (by omega)
    by_cases hp:Pk r (Kw l e).1.El=true
    ·have hstep:Qi l r ((i:Int),e.El,e.Side)=some (.inr (.inr (z0,-1,true))):=by
      unfold Qi;simp only [Pk] at hp;simp only [hi4,cond_true,Vk hs.jo,Option.bind_some,hj',Bool.not_true,cond_false,Em hs.sg,hg',o1,o2,Ja5,Bool.cond_true_left,hp]; rfl
     rw [Qk hstep,if_pos hp]; rfl
    ·rw [if_neg hp];have hp':(ovB r.Path (Kw l e).1.El||ovB r.Over (Kw l e).1.El)=false:=by simpa [Pk] using hp
     have hin:=hx.has;simp only [Vf,Bool.and_eq_true,decide_eq_true_eq] at hin;have d1:decide ((Kw l e).1.El<0)=false:=decide_eq_false (by omega);have d2:decide (((l.Elements.length:Nat):Int)<=(Kw l e).1.El)=false:=decide_eq_false (by omega);have hk:=hx.kinds
     by_cases h2:Jeh l (Kw l e).1.El=2
     ·rw [if_pos h2];rw [hx.kind] at h2
      by_cases h0:(Kw l e).1.Side=0
      ·have hstep:Qi l r ((i:Int),e.El,e.Side)=some (.inr (.inr (z0,-1,false))):=by
        unfold Qi;simp only [hi4,cond_true,Vk hs.jo,Option.bind_some,hj',Bool.not_true,cond_false,Em hs.sg,hg',o1,o2,Ja5,Bool.cond_true_left,hp',d1,d2,Bool.false_or,hx.ix,h2,h0,decide_true,Bool.and_self]; rfl
       rw [Qk hstep,if_pos h0]; rfl
      ·have hsd:(Kw l e).1.Side=1\/(Kw l e).1.Side=2:=by omega
       rw [if_neg h0];have hstep:Qi l r ((i:Int),e.El,e.Side)=some (.inr (.inr (if Jj7 r ⟨(Kw l e).1.El,(Kw l e).1.Side⟩=true then (z0,-1,false) else (⟨(Kw l e).1.El,3 - (Kw l e).1.Side⟩,-1,true)))):=by
        unfold Qi;simp only [hi4,cond_true,Vk hs.jo,Option.bind_some,hj',Bool.not_true,cond_false,Em hs.sg,hg',o1,o2,Ja5,Bool.cond_true_left,hp',d1,d2,Bool.false_or,hx.ix,h2,h0,decide_true,decide_false,Bool.and_false,Kls hr hsd]
       rw [Qk hstep]; rfl
     ·rw [if_neg h2];rw [hx.kind] at h2 ⊢;have hka:x.Kind=1/\((Kw l e).1.Side=0\/(Kw l e).1.Side=1)\/x.Kind=3/\((Kw l e).1.Side=0\/(Kw l e).1.Side=1\/(Kw l e).1.Side=2\/(Kw l e).1.Side=3):=by omega
      have hstep:Qi l r ((i:Int),e.El,e.Side)=some (.inl (((i+1:Nat):Int),(Kw l e).1.El,Jlc x.Kind (Kw l e).1.Side)):=by
       unfold Qi;simp only [hi4,cond_true,Vk hs.jo,Option.bind_some,hj',Bool.not_true,cond_false,Em hs.sg,hg',o1,o2,Ja5,Bool.cond_true_left,hp',d1,d2,Bool.false_or,hx.ix,h2,decide_false,Bool.false_and,Jya hka];rw [Cv (by omega)]
      rw [Vz hstep];exact ih (i+1) ⟨(Kw l e).1.El,Jlc x.Kind (Kw l e).1.Side⟩ (by omega)
theorem Jkw (e:Je):Od l r e=some (Jgv l (Pk r) (Jj7 r) 4 e):=Jwj hs hl hr 4 0 e rfl
end
end PM
namespace PM
open Go Go.RowKit
def Khj (l:Ja) (s:Jb):List Je :=
 bif (Jcc l s).2 then ((List.range (Jba (Jeh l s.El)).toNat).filter fun (i:Nat) => !decide ((i:Int)=s.In) && !decide ((i:Int)=s.Out)).map fun (i:Nat)=>(⟨s.El,(i:Int)⟩:Je) else []
theorem Jus (k:Int):0<=Jba k/\Jba k<=4:=by
 unfold Jba; split
 ·omega
 ·split
  ·omega
  ·split <;> omega
theorem Jlk (l:Ja) (s:Jb):(Khj l s).length<=4:=by
 unfold Khj;cases (Jcc l s).2 with
 | false=>simp
 | true =>
  have:=Jus (Jeh l s.El);simp only [cond_true,List.length_map];exact Nat.le_trans (List.length_filter_le _ _) (by simp; omega)
theorem Jc5 (l:Ja) (s:Jb) (hkk:∀ x,l.Elements[s.El.toNat]? = some x->x.Kind=1\/x.Kind=2\/x.Kind=3):Bh l s=some (Khj l s):=by
 unfold Bh Khj;simp only [Ja5,Option.bind_some,Bool.cond_true_left];have e:(decide (s.El<0)||decide (((l.Elements.length:Nat):Int)<=s.El)) = !Vf l s.El:=by
  unfold Vf; rw [Bool.eq_iff_iff]; simp
 rw [e];cases h:Vf l s.El with
 | false=>simp [Jcc,h]
 | true =>
  obtain ⟨x,h1,h2⟩:=Yb h;have hk:Jeh l s.El=x.Kind:=by simp [Jeh,h2]
  have hp:Jcc l s=Tj x.Kind s.In s.Out:=by simp [Jcc,h,h2]
  simp only [Bool.not_true,cond_false,h1,Option.bind_some,Su,hp,hk];have h4:=Jus x.Kind;obtain ⟨m,hm⟩:∃ m:Nat,Jba x.Kind=(m:Int):=⟨(Jba x.Kind).toNat,by omega⟩
  rw [hm];simp only [Int.toNat_natCast];have:Is (Js (Dj s x (Tj x.Kind s.In s.Out)) (0,([]:List Je))) fun o=>o=.inl (bif (Tj x.Kind s.In s.Out).2 then (((List.range m).filter fun (i:Nat) => !decide ((i:Int)=s.In) && !decide ((i:Int)=s.Out)).map fun (i:Nat)=>(⟨s.El,(i:Int)⟩:Je)) else []):=by
   refine Is.loop (mk:=fun (i:Nat) (o:List Je)=>((i:Int),o)) m (fun i o=>o=bif (Tj x.Kind s.In s.Out).2 then (((List.range i).filter fun (i:Nat) => !decide ((i:Int)=s.In) && !decide ((i:Int)=s.Out)).map fun (i:Nat)=>(⟨s.El,(i:Int)⟩:Je)) else []) [] (by cases (Tj x.Kind s.In s.Out).2 <;> simp) ?_ ?_
   ·rintro i o hi rfl;unfold Dj;have e0:decide ((i:Int)<((m:Nat):Int))=true:=decide_eq_true (by omega);simp only [Xl,hm,Option.bind_some,e0,cond_true];refine Is.onInl (θ:=fun o=>o=.inl (bif (Tj x.Kind s.In s.Out).2 then (((List.range (i+1)).filter fun (i:Nat) => !decide ((i:Int)=s.In) && !decide ((i:Int)=s.Out)).map fun (i:Nat)=>(⟨s.El,(i:Int)⟩:Je)) else [])) ?_ (fun v hv=>?_) (fun b hb=>by cases hb)
    ·cases hn:(Tj x.Kind s.In s.Out).2 with
     | false=>simp only [Bool.false_and,cond_false]; exact Is.val rfl
     | true =>
      simp only [Bool.true_and,cond_true];rw [List.range_succ,List.filter_append,List.map_append];refine Is.cond (fun hc=>?_) (fun hc=>?_)
      ·have hlen:(((List.range i).filter fun (i:Nat) => !decide ((i:Int)=s.In) && !decide ((i:Int)=s.Out)).map fun (i:Nat)=>(⟨s.El,(i:Int)⟩:Je)).length<=4:=by
        rw [List.length_map]; exact Nat.le_trans (List.length_filter_le _ _) (by simp; omega)
       refine Is.bind (Is.app (by simp only [List.length_cons,List.length_nil,Jw,Enc.b]; omega)) fun M hM=>?_;subst hM;exact Is.val (by simp [hc])
      ·exact Is.val (by simp [hc])
    ·cases hv;exact Is.val ⟨_,by rw [Cv (by omega)],rfl⟩
   ·rintro o rfl;unfold Dj;have e0:decide (((m:Nat):Int)<((m:Nat):Int))=false:=decide_eq_false (by omega);simp only [Xl,hm,Option.bind_some,e0,cond_false];exact Is.val rfl
  obtain ⟨o,q1,rfl⟩:=this;simp [q1,onInl,Vs]
def Fz (l:Ja) (L:List Jb):List Je:=L.flatMap (Khj l)
theorem Jca (l:Ja) (A B:List Jb):Fz l (A++B)=Fz l A++Fz l B:=by simp [Fz]
theorem Tz (l:Ja):∀ L:List Jb,(Fz l L).length<=4 * L.length
 | []=>by simp [Fz]
 | s::r=>by
  have h1:=Jlk l s;have h2:=Tz l r;simp only [Fz,List.flatMap_cons,List.length_append,List.length_cons] at h2 ⊢; omega
theorem Jvu {l:Ja} (hl:OkL l) (s:Jb) (x:Ju) (h:l.Elements[s.El.toNat]? = some x):x.Kind=1\/x.Kind=2\/x.Kind=3:=by
 have:=(hl.elem.1 x (List.mem_of_getElem? h)).1; omega
theorem Jms {l:Ja} (hl:OkL l) {r:Ji} (h:Jgo r):Lg l r=some (Fz l (r.Path++r.Over)):=by
 have hp:=h.path;have ho:=h.over;have h1:Is (Js (Ep l r) (0,([]:List Je))) fun o=>o=.inl (Fz l r.Path):=by
  refine Is.loop (mk:=fun (i:Nat) (o:List Je)=>((i:Int),o)) r.Path.length (fun i o=>o=Fz l (r.Path.take i)) [] (by simp [Fz]) ?_ ?_
  ·rintro i o hi rfl;unfold Ep;obtain ⟨s,hs⟩:∃ y,r.Path[i]? = some y:=⟨_,List.getElem?_eq_getElem hi⟩
   have e0:decide ((i:Int)<((r.Path.length:Nat):Int))=true:=decide_eq_true (by omega);have hlen:=Tz l (r.Path.take i);have hb:=Jlk l s;rw [List.length_take] at hlen;simp only [Zb hs,e0,cond_true,Option.bind_some,Jc5 l s (Jvu hl s)];refine Is.bind (Is.app (by simp only [Jw,Enc.b]; omega)) fun M hM=>?_;subst hM;refine Is.val ⟨_,by rw [Cv (by omega)], ?_⟩;rw [Wa hs,Jca]; simp [Fz]
  ·rintro o rfl;unfold Ep;have e0:decide (((r.Path.length:Nat):Int)<((r.Path.length:Nat):Int))=false:=decide_eq_false (by omega);simp only [e0,cond_false];exact Is.val (by rw [List.take_length])
 have h2:Is (Js (Ek l r) (Fz l r.Path,0)) fun o=>o=.inl (Fz l r.Path++Fz l r.Over):=by
  have hpl:=Tz l r.Path;refine Is.loop (mk:=fun (i:Nat) (o:List Je)=>(o,(i:Int))) r.Over.length (fun i o=>o=Fz l r.Path++Fz l (r.Over.take i)) (Fz l r.Path) (by simp [Fz]) ?_ ?_
  ·rintro i o hi rfl;unfold Ek;obtain ⟨s,hs⟩:∃ y,r.Over[i]? = some y:=⟨_,List.getElem?_eq_getElem hi⟩
   have e0:decide ((i:Int)<((r.Over.length:Nat):Int))=true:=decide_eq_true (by omega);have hlen:=Tz l (r.Over.take i);have hb:=Jlk l s;rw [List.length_take] at hlen;simp only [Zb hs,e0,cond_true,Option.bind_some,Jc5 l s (Jvu hl s)];refine Is.bind (Is.app (by simp only [Jw,Enc.b,List.length_append]; omega)) fun M hM=>?_;subst hM;refine Is.val ⟨_,by rw [Cv (by omega)], ?_⟩;rw [Wa hs,Jca,List.append_assoc]; simp [Fz]
  ·rintro o rfl;unfold Ek;have e0:decide (((r.Over.length:Nat):Int)<((r.Over.length:Nat):Int))=false:=decide_eq_false (by omega);simp only [e0,cond_false];exact Is.val (by rw [List.take_length])
 obtain ⟨o1,q1,rfl⟩:=h1;obtain ⟨o2,q2,rfl⟩:=h2;unfold Lg;rw [q1];simp only [onInl,Vs,Option.bind_some,q2,Jca]
structure FG where
 flank:List Jf
 guards:List Int
 gaps:List Je
def Jdo (x:FG) (e:Je) (s:Jf×Int×Bool):FG :=
 if s.2.2=false then ⟨x.flank,x.guards,x.gaps++[e]⟩ else
 if 0<=s.2.1 then ⟨x.flank,x.guards++[s.2.1],x.gaps⟩ else
 if s.1=z0 then x else ⟨x.flank++[s.1],x.guards,x.gaps⟩
def Jc3 (N:Jf->Bool) (x:FG) (s:Jf):Bool:=N s||Jl9 x.flank s
def Jas (l:Ja) (P:Int->Bool) (N:Jf->Bool):List Je->FG->FG
 | [],x=>x
 | e::r,x=>Jas l P N r (Jdo x e (Jgv l P (Jc3 N x) 4 e))
theorem Jhz (l:Ja) (P:Int->Bool) (N:Jf->Bool):∀ (A B:List Je) (x:FG),Jas l P N (A++B) x=Jas l P N B (Jas l P N A x)
 | [],_,_=>rfl
 | e::A,B,x=>Jhz l P N A B _
structure Kav (x:FG) (n:Nat):Prop where
 flank:x.flank.length<=n
 guards:x.guards.length<=n
 gaps:x.gaps.length<=n
theorem Kaq {x:FG} {n:Nat} (h:Kav x n) (e:Je) (s:Jf×Int×Bool):Kav (Jdo x e s) (n+1):=by
 have h1:=h.flank;have h2:=h.guards;have h3:=h.gaps;unfold Jdo;split
 ·exact ⟨by simp only; omega,by simp only; omega,by simp; omega⟩
 ·split
  ·exact ⟨by simp only; omega,by simp; omega,by simp only; omega⟩
  ·split
   ·exact ⟨by omega,by omega,by omega⟩
   ·exact ⟨by simp; omega,by simp only; omega,by simp only; omega⟩
theorem Jix (l:Ja) (P:Int->Bool) (N:Jf->Bool):∀ (A:List Je) (x:FG) (n:Nat),Kav x n->Kav (Jas l P N A x) (n+A.length)
 | [],x,n,h=>h
 | e::A,x,n,h=>by
  have:=Jix l P N A _ (n+1) (Kaq h e (Jgv l P (Jc3 N x) 4 e));rw [List.length_cons,show n+(A.length+1)=n+1+A.length by omega];exact this
def Jim (r:Ji) (s:Jf):Bool:=Jl9 r.Points s||Jl9 r.OverPoints s
def fg0 : FG:=⟨[],[],[]⟩
def Jlj (l:Ja) (r:Ji):FG:=Jas l (Pk r) (Jim r) (Fz l (r.Path++r.Over)) fg0
def Jig (r:Ji) (x:FG):Ji:=⟨r.Name,r.Entry,r.Exit,r.Path,r.Points,r.Sections,r.Approach,r.Length,r.Over,r.OverPoints,r.OverSections,x.flank,x.guards,x.gaps⟩
theorem Jgl {r:Ji} (h:Jgo r) {x:FG} (hx:Kav x 1000):Jgo (Jig r x):=⟨h.path,h.over,h.pts,h.ops,hx.flank,h.secs,h.osecs,hx.guards,hx.gaps⟩
theorem Jw3 (r:Ji) (x:FG):Jj7 (Jig r x)=Jc3 (Jim r) x:=rfl
section
variable {l:Ja} (hs:Sm l) (hl:OkL l) {r:Ji} (hr:Jgo r)
include hs hl hr
end
end PM
namespace PM
open Go Go.RowKit
end PM
namespace PM
open Go Go.RowKit
def sF (L:List Jf):List Jf:=ddS (L.mergeSort fun x y => !ltS y x)
def sG (L:List Int):List Int:=ddS (L.mergeSort fun x y=>decide (x<=y))
theorem Kk5 (L:List Jf) (x:Jf):x∈sF L↔x∈L:=by rw [sF,Jrs,(List.mergeSort_perm _ _).mem_iff]
theorem Klx (L:List Int) (x:Int):x∈sG L↔x∈L:=by rw [sG,Jrs,(List.mergeSort_perm _ _).mem_iff]
theorem Kkq (L:List Jf):(sF L).length<=L.length:=Nat.le_trans (Jq5 _) (by rw [(List.mergeSort_perm _ _).length_eq]; exact Nat.le_refl _)
theorem Klh (L:List Int):(sG L).length<=L.length:=Nat.le_trans (Jq5 _) (by rw [(List.mergeSort_perm _ _).length_eq]; exact Nat.le_refl _)
theorem Kkz (L:List Jf):Asc (sF L):=by
 refine Jgt Jrp Jrc _ ?_;have:=List.pairwise_mergeSort (le:=fun x y => !ltS y x) (fun a b c h1 h2=>?_) (fun a b=>?_) L
 ·exact this.imp fun h=>by simpa using h
 ·simp only [Xy,Bool.not_eq_true',decide_eq_false_iff_not] at *; omega
 ·cases h:ltS b a with
  | false=>rfl
  | true =>
   have:ltS a b=false:=by rw [Xy,decide_eq_true_iff] at h; rw [Xy,decide_eq_false_iff_not]; omega
   simp [this]
theorem Klg (L:List Int):(sG L).Pairwise fun x y=>x<y:=by
 have h1:(sG L).Pairwise fun x y=>decide (x<y)=true:=by
  refine Jgt (lt:=fun x y=>decide (x<y)) (fun x y z h1 h2=>by simp at h1 h2 ⊢; omega) (fun x y h=>by simp at h ⊢; omega) _ ?_;have:=List.pairwise_mergeSort (le:=fun (x y:Int)=>decide (x<=y)) (fun a b c h1 h2=>by simp at h1 h2 ⊢; omega) (fun a b=>by simp; omega) L;exact this.imp fun h=>by simp at h ⊢; omega
 exact h1.imp fun h=>by simpa using h
def Kjm (l:Ja) (r:Ji):Ji:=Jig r ⟨sF (Jlj l r).flank,sG (Jlj l r).guards,(Jlj l r).gaps⟩
theorem Keg (l:Ja) {r:Ji} (hp:r.Path.length<=40) (ho:r.Over.length<=40):Kav (Jlj l r) 400:=by
 have h:=Jix l (Pk r) (Jim r) (Fz l (r.Path++r.Over)) fg0 0 ⟨by simp [fg0],by simp [fg0],by simp [fg0]⟩;have h2:=Tz l (r.Path++r.Over);rw [List.length_append] at h2;exact ⟨by have:=h.flank; unfold Jlj; omega,by have:=h.guards; unfold Jlj; omega,by have:=h.gaps; unfold Jlj; omega⟩
theorem Kap (l:Ja) {r:Ji} (hr:Jgo r) (hp:r.Path.length<=40) (ho:r.Over.length<=40):Jgo (Kjm l r):=by
 have hL:=Keg l hp ho;refine Jgl hr ⟨?_, ?_,by have:=hL.gaps; simp only; omega⟩
 ·have:=Kkq (Jlj l r).flank; have:=hL.flank; simp only; omega
 ·have:=Klh (Jlj l r).guards; have:=hL.guards; simp only; omega
structure SrOk (l:Ja) (P:Int->Bool) (N:Jf->Bool) (t:Jf×Int×Bool):Prop where
 guard:0<=t.2.1->t.2.1<(l.Signals.length:Nat)
 set:t.1≠z0->Vf l t.1.El=true/\Jeh l t.1.El=2/\(t.1.Pos=1\/t.1.Pos=2)/\P t.1.El=false/\N ⟨t.1.El,3 - t.1.Pos⟩=false
theorem Kh8 (L:List Kl) (e:Je):Jak L e<(L.length:Nat):=by
 unfold Jak;split
 ·next i h =>
  have:=(List.findIdx?_eq_some_iff_getElem.1 h).1;omega
 ·omega
theorem Jsc {l:Ja} (hl:OkL l) (P:Int->Bool) (N:Jf->Bool):∀ (n:Nat) (e:Je),SrOk l P N (Jgv l P N n e)
 | 0,e=>⟨fun h=>by simp [Jgv] at h,fun h=>absurd rfl h⟩
 | n+1,e=>by
  unfold Jgv;split
  ·exact ⟨fun h=>by simp at h,fun h=>absurd rfl h⟩
  ·next hj =>
   obtain ⟨x,hx⟩:=Jn4 hl (e:=e) (by simpa using hj);split
   ·exact ⟨fun _=>Kh8 _ _,fun h=>absurd rfl h⟩
   ·split
    ·exact ⟨fun h=>by simp at h,fun h=>absurd rfl h⟩
    ·next hp =>
     split
     ·next hk =>
      split
      ·exact ⟨fun h=>by simp at h,fun h=>absurd rfl h⟩
      ·next h0 =>
       split
       ·exact ⟨fun h=>by simp at h,fun h=>absurd rfl h⟩
       ·next hN =>
        refine ⟨fun h=>by simp at h,fun _=>⟨hx.has,hk, ?_,by simpa using hp, ?_⟩⟩
        ·have:=hx.kinds;rw [hx.kind] at hk;simp only; omega
        ·simp only;rw [show 3 - (3 - (Kw l e).1.Side)=(Kw l e).1.Side by omega]
         simpa using hN
     ·exact Jsc hl P N n _
structure Kho (l:Ja) (P:Int->Bool) (x:FG):Prop where
 flank:∀ y∈x.flank,Vf l y.El=true/\Jeh l y.El=2/\(y.Pos=1\/y.Pos=2)/\P y.El=false
 one:∀ y∈x.flank,∀ z∈x.flank,y.El=z.El->y=z
 guards:∀ g∈x.guards,0<=g/\g<(l.Signals.length:Nat)
theorem Jtf {l:Ja} {P:Int->Bool} {N:Jf->Bool} {x:FG} (h:Kho l P x) (e:Je) {t:Jf×Int×Bool} (ht:SrOk l P (Jc3 N x) t):Kho l P (Jdo x e t):=by
 unfold Jdo;split
 ·exact ⟨h.flank,h.one,h.guards⟩
 ·split
  ·next h2 =>
   refine ⟨h.flank,h.one,fun g hg=>?_⟩;rcases List.mem_append.1 hg with hg|hg
   ·exact h.guards g hg
   ·simp at hg; subst hg; exact ⟨h2,ht.guard h2⟩
  ·split
   ·exact h
   ·next h3 =>
    obtain ⟨g1,g2,g3,g4,g5⟩:=ht.set h3;have key:∀ y∈x.flank,y.El=t.1.El->y=t.1:=by
     intro y hy ey;have h1:=(h.flank y hy).2.2.1;have hn:y≠⟨t.1.El,3 - t.1.Pos⟩:=by
      rintro rfl;have:Jl9 x.flank ⟨t.1.El,3 - t.1.Pos⟩=true:=decide_eq_true hy;simp only [Jc3,this,Bool.or_true] at g5;cases g5
     obtain ⟨a,b⟩:=y;generalize t.1=u at ey g3 hn ⊢;obtain ⟨c,d⟩:=u;simp only at ey h1 g3 hn;subst ey;have:b=d:=by
      rcases h1 with rfl|rfl <;> rcases g3 with rfl|rfl <;> first|rfl|exact absurd rfl hn
     rw [this]
    refine ⟨fun y hy=>?_,fun y hy z hz ez=>?_,h.guards⟩
    ·rcases List.mem_append.1 hy with hy|hy
     ·exact h.flank y hy
     ·simp at hy; subst hy; exact ⟨g1,g2,g3,g4⟩
    ·rcases List.mem_append.1 hy with hy|hy <;> rcases List.mem_append.1 hz with hz|hz
     ·exact h.one y hy z hz ez
     ·simp at hz; subst hz; exact key y hy ez
     ·simp at hy; subst hy; exact (key z hz ez.symm).symm
     ·simp at hy hz; rw [hy,hz]
theorem Ju8 {l:Ja} (hl:OkL l) (P:Int->Bool) (N:Jf->Bool):∀ (A:List Je) (x:FG),Kho l P x->Kho l P (Jas l P N A x)
 | [],_,h=>h
 | e::A,x,h=>Ju8 hl P N A _ (Jtf h e (Jsc hl P (Jc3 N x) 4 e))
end PM
namespace PM
open Go Go.RowKit
def Jbb (l:List Int):Prop:=l.Pairwise (·<·)
theorem Jbb.one {a b:List Int} (ha:Jbb a) (hb:Jbb b) (h:∀ x,x∈a↔x∈b):a=b :=
 Rf (lt:=fun x y=>decide (x<y)) (fun x=>by simp) (fun x y z h1 h2=>by simp at h1 h2 ⊢; omega) a b (ha.imp fun h=>decide_eq_true h) (hb.imp fun h=>decide_eq_true h) h
theorem Jbb.at {L:List Int} (h:Jbb L) {i j:Nat} {x y:Int} (hx:L[i]? = some x) (hy:L[j]? = some y) (hij:i<j):x<y:=by
 have h1:=Ue hx;have h2:=Ue hy;rw [List.getElem?_eq_getElem h1] at hx; cases hx;rw [List.getElem?_eq_getElem h2] at hy; cases hy;exact (List.pairwise_iff_getElem.1 h) i j h1 h2 hij
theorem Jrb (L:List Int) (x:Int) (h:L.length<=1048576):Sf L x=some (decide (x∈L)):=by
 unfold Sf;rw [Jb2 (fun y=>decide (y=x)) (fun _=>.inr true) (.inl ()) L (by omega)]
 ·cases hf:L.find? (fun y=>decide (y=x)) with
  | none =>
   rw [List.find?_eq_none] at hf;have:¬ x∈L:=fun hx=>hf x hx (by simp);simp [onInl,Vs,this]
  | some y =>
   have h1:=List.mem_of_find?_eq_some hf;have h2:=List.find?_some hf;simp only [decide_eq_true_eq] at h2;subst h2;simp [onInl,Vs,h1]
 ·intro i y hy;have hi:=Ue hy;simp only [Pz,Zb hy,show decide ((i:Int)<((L.length:Nat):Int))=true by simp; omega,cond_true,Option.bind_some]
 ·simp [Pz]
structure Klr (L:List Int) (x:Int) (i:Nat) (d:Bool) (o:List Int):Prop where
 asc:Jbb o
 mem:∀ y,y∈o↔y∈L.take i\/(d=true/\y=x)
 len:o.length<=i+1
 no:d=false->∀ y∈L.take i,y<x
 yes:d=true->∀ (j:Nat) y,i<=j->L[j]? = some y->x<y
theorem Kiz {L:List Int} (h:Jbb L) {i:Nat} {y z:Int} (hy:L[i]? = some y) (hz:z∈L.take i):z<y:=by
 obtain ⟨j,hj⟩:=List.mem_iff_getElem?.1 hz;have h1:=Ue hj;rw [List.length_take] at h1;rw [List.getElem?_take] at hj;split at hj
 ·exact h.at hj hy (by omega)
 ·cases hj
theorem Jc0 (L:List Int) (x:Int) (hL:Jbb L) (h:L.length<=1000000):Is (Cz L x) fun M=>Jbb M/\(∀ y,y∈M↔y∈L\/y=x)/\M.length<=L.length+1:=by
 unfold Cz;rw [Jrb L x (by omega),Option.bind_some];refine Is.ite (p:=x∈L) Ky (fun hx=>Is.val ⟨hL,fun y=>⟨.inl, ?_⟩,by omega⟩) (fun hx=>?_)
 ·rintro (h|rfl)
  ·exact h
  ·exact hx
 refine Is.onInl (θ:=fun o=>∃ r,o=.inl r/\Klr L x L.length r.2 r.1) ?_ ?_ (fun b hb=>by obtain ⟨_,hb,_⟩:=hb; cases hb)
 ·refine Is.loop (mk:=fun (i:Nat) (s:Bool×List Int)=>(s.1,(i:Int),s.2)) L.length (fun i s=>Klr L x i s.1 s.2) (false,[]) ⟨List.Pairwise.nil,fun y=>by simp,by simp,fun _ y hy=>by simp at hy,fun h=>by cases h⟩ ?_ ?_
  ·rintro i ⟨d,o⟩ hi hI;unfold Hs;simp only at hI;obtain ⟨y,hy⟩:∃ y,L[i]? = some y:=⟨_,List.getElem?_eq_getElem hi⟩
   have hlen:=hI.len;have hmem:y∈L:=List.mem_of_getElem? hy;have e0:decide ((i:Int)<((L.length:Nat):Int))=true:=decide_eq_true (by omega);simp only [Zb hy,e0,cond_true,Option.bind_some,Fk,Bool.cond_false_right];refine Is.onInl (θ:=fun v=>∃ r,v=.inl r/\r.1.length<=i+2 - 1+1 - 1+1/\Klr L x (i+1) r.2 (r.1++[y])) ?_ ?_ (fun b hb=>by obtain ⟨_,hb,_⟩:=hb; cases hb)
   ·refine Is.cond (fun hc=>?_) (fun hc=>?_)
    ·simp only [Bool.and_eq_true,Bool.not_eq_true',decide_eq_true_eq] at hc;obtain ⟨rfl,hc⟩:=hc;have hol:o.length<=i:=by
      have e:o=L.take i:=hI.asc.one (hL.sublist (List.take_sublist i L)) (fun z=>by rw [hI.mem]; simp);rw [e,List.length_take]; omega
     refine Is.bind (Is.app (by simp only [List.length_cons,List.length_nil,Jw,Enc.b]; omega)) fun M hM=>?_;subst hM;refine Is.val ⟨_,rfl,by simp; omega, ?_⟩;refine ⟨?_,fun z=>?_,by simp; omega,fun h=>(by cases h),fun _ j z hj hz=>?_⟩
     ·unfold Jbb;rw [List.append_assoc,List.pairwise_append];refine ⟨hI.asc,by simp [hc],fun a ha b hb=>?_⟩;have h1:a∈L.take i:=by
       have:=(hI.mem a).1 ha;rcases this with h|⟨h,_⟩
       ·exact h
       ·cases h
      have h2:=hI.no rfl a h1;simp at hb;rcases hb with rfl|rfl <;> omega
     ·rw [Wa hy];simp only [List.mem_append,List.mem_singleton,hI.mem,Bool.false_eq_true,false_and,or_false,true_and];exact or_right_comm
     ·by_cases e:j=i
      ·subst e; rw [hy] at hz; cases hz; exact hc
      ·exact Int.lt_trans hc (hL.at hy hz (by omega))
    ·have hol:o.length<=i+1:=hI.len;refine Is.val ⟨_,rfl,by simp; omega, ?_⟩;have hd:d=false->y<x:=by
      rintro rfl;simp only [Bool.not_false,Bool.true_and,decide_eq_false_iff_not] at hc;have:y≠x:=fun e=>hx (e▸hmem);omega
     refine ⟨?_,fun z=>?_, ?_,fun h z hz=>?_,fun h j z hj hz=>hI.yes h j z (by omega) hz⟩
     ·unfold Jbb;rw [List.pairwise_append];refine ⟨hI.asc,by simp,fun a ha b hb=>?_⟩;simp at hb; subst hb;rcases (hI.mem a).1 ha with h|⟨h,rfl⟩
      ·exact Kiz hL hy h
      ·exact hI.yes h i _ (Nat.le_refl _) hy
     ·rw [Wa hy];simp only [List.mem_append,List.mem_singleton,hI.mem];exact or_right_comm
     ·simp; omega
     ·rw [Wa hy] at hz;rcases List.mem_append.1 hz with hz|hz
      ·exact hI.no h z hz
      ·simp at hz; subst hz; exact hd h
   ·rintro ⟨o',d'⟩ ⟨r,hr,hl,hI'⟩;cases hr;refine Is.bind (Is.app (by simp only [List.length_cons,List.length_nil,Jw,Enc.b]; simp only at hl; omega)) fun M hM=>?_;subst hM;exact Is.val ⟨(d',o'++[y]),by rw [Cv (by omega)],hI'⟩
  ·rintro ⟨d,o⟩ hI;unfold Hs;have e0:decide (((L.length:Nat):Int)<((L.length:Nat):Int))=false:=decide_eq_false (by omega);simp only [e0,cond_false];exact Is.val ⟨_,rfl,hI⟩
 ·rintro ⟨o,d⟩ ⟨r,hr,hI⟩;cases hr;simp only at hI;have hlen:=hI.len;refine Is.onInl (θ:=fun v=>∃ M,v=.inl M/\Jbb M/\(∀ y,y∈M↔y∈L\/y=x)/\M.length<=L.length+1) ?_ (fun v hv=>?_) (fun b hb=>by obtain ⟨_,hb,_⟩:=hb; cases hb)
  ·cases d with
   | true =>
    simp only [Bool.not_true,cond_false];exact Is.val ⟨_,rfl,hI.asc,fun y=>by rw [hI.mem]; simp,hlen⟩
   | false =>
    have hol:o=L:=hI.asc.one hL (fun z=>by rw [hI.mem]; simp);subst hol;simp only [Bool.not_false,cond_true];refine Is.bind (Is.app (by simp only [List.length_cons,List.length_nil,Jw,Enc.b]; omega)) fun M hM=>?_;subst hM;refine Is.val ⟨_,rfl, ?_,fun y=>by simp,by simp⟩;unfold Jbb;rw [List.pairwise_append];refine ⟨hL,by simp,fun a ha b hb=>?_⟩;simp at hb; subst hb;exact hI.no rfl a (by rw [List.take_length]; exact ha)
  ·obtain ⟨M,rfl|_,h1,h2,h3⟩:=hv;exact Is.val ⟨h1,h2,h3⟩
theorem Jfv (L:List Int) (h:L.length<=1000000):Is (Hu L) fun M=>Jbb M/\∀ y,y∈M↔y∈L:=by
 unfold Hu;refine Is.onInl (θ:=fun o=>∃ M,o=.inl M/\Jbb M/\(∀ y,y∈M↔y∈L)) ?_ (fun v hv=>?_) (fun b hb=>by obtain ⟨_,hb,_⟩:=hb; cases hb)
 ·first
   | refine Is.loop (mk:=fun (i:Nat) (o:List Int)=>(o,(i:Int))) L.length (fun i o=>Jbb o/\(∀ y,y∈o↔y∈L.take i)/\o.length<=i) [] ⟨List.Pairwise.nil,fun y=>by simp,by simp⟩ ?_ ?_
   | refine Is.loop (mk:=fun (i:Nat) (o:List Int)=>((i:Int),o)) L.length (fun i o=>Jbb o/\(∀ y,y∈o↔y∈L.take i)/\o.length<=i) [] ⟨List.Pairwise.nil,fun y=>by simp,by simp⟩ ?_ ?_
  ·rintro i o hi ⟨h1,h2,h3⟩;unfold Oh;obtain ⟨y,hy⟩:∃ y,L[i]? = some y:=⟨_,List.getElem?_eq_getElem hi⟩
   have e0:decide ((i:Int)<((L.length:Nat):Int))=true:=decide_eq_true (by omega);simp only [Zb hy,e0,cond_true,Option.bind_some];refine Is.bind (Jc0 o y h1 (by omega)) fun M hM=>?_;refine Is.val ⟨_,by rw [Cv (by omega)],hM.1,fun z=>?_,by have:=hM.2.2; omega⟩;rw [hM.2.1,h2,Wa hy]; simp
  ·rintro o ⟨h1,h2,h3⟩;unfold Oh;have e0:decide (((L.length:Nat):Int)<((L.length:Nat):Int))=false:=decide_eq_false (by omega);simp only [e0,cond_false];exact Is.val ⟨_,rfl,h1,fun y=>by rw [h2,List.take_length]⟩
 ·obtain ⟨M,rfl|_,h1,h2⟩:=hv;exact Is.val ⟨h1,h2⟩
end PM
namespace PM
open Go Go.RowKit
def Jfo (l:List Jf):Prop:=l.Pairwise fun x y=>x.El<y.El
theorem Jfo.one {a b:List Jf} (ha:Jfo a) (hb:Jfo b) (h:∀ x,x∈a↔x∈b):a=b :=
 Rf (lt:=fun x y=>decide (x.El<y.El)) (fun x=>by simp) (fun x y z h1 h2=>by simp at h1 h2 ⊢; omega) a b (ha.imp fun h=>decide_eq_true h) (hb.imp fun h=>decide_eq_true h) h
theorem Jfo.at {L:List Jf} (h:Jfo L) {i j:Nat} {x y:Jf} (hx:L[i]? = some x) (hy:L[j]? = some y) (hij:i<j):x.El<y.El:=by
 have h1:=Ue hx;have h2:=Ue hy;rw [List.getElem?_eq_getElem h1] at hx; cases hx;rw [List.getElem?_eq_getElem h2] at hy; cases hy;exact (List.pairwise_iff_getElem.1 h) i j h1 h2 hij
theorem Jfo.asc {L:List Jf} (h:Jfo L):Asc L:=h.imp fun {x y} hxy=>by rw [Xy,decide_eq_true_iff]; exact .inl hxy
structure Kkx (L:List Jf) (x:Jf) (i:Nat) (d:Bool) (o:List Jf):Prop where
 asc:Jfo o
 mem:∀ y,y∈o↔y∈L.take i\/(d=true/\y=x)
 len:o.length<=i+1
 no:d=false->∀ y∈L.take i,y.El<x.El
 yes:d=true->∀ (j:Nat) y,i<=j->L[j]? = some y->x.El<y.El
theorem Kgr {L:List Jf} (h:Jfo L) {i:Nat} {y z:Jf} (hy:L[i]? = some y) (hz:z∈L.take i):z.El<y.El:=by
 obtain ⟨j,hj⟩:=List.mem_iff_getElem?.1 hz;have h1:=Ue hj;rw [List.length_take] at h1;rw [List.getElem?_take] at hj;split at hj
 ·exact h.at hj hy (by omega)
 ·cases hj
theorem Jr1 (L:List Jf) (x:Jf) (hL:Jfo L) (hne:x∈L\/∀ y∈L,y.El≠x.El) (h:L.length<=1000000):Is (Sj L x) fun M=>Jfo M/\(∀ y,y∈M↔y∈L\/y=x)/\M.length<=L.length+1:=by
 unfold Sj;rw [Tl L x (by omega),Option.bind_some];refine Is.ite (p:=x∈L) (show Jl9 L x=true↔x∈L from Ky) (fun hx=>Is.val ⟨hL,fun y=>⟨.inl, ?_⟩,by omega⟩) (fun hx=>?_)
 ·rintro (h|rfl)
  ·exact h
  ·exact hx
 have hne:∀ y∈L,y.El≠x.El:=hne.resolve_left hx;refine Is.onInl (θ:=fun o=>∃ r,o=.inl r/\Kkx L x L.length r.2 r.1) ?_ ?_ (fun b hb=>by obtain ⟨_,hb,_⟩:=hb; cases hb)
 ·refine Is.loop (mk:=fun (i:Nat) (s:Bool×List Jf)=>(s.1,(i:Int),s.2)) L.length (fun i s=>Kkx L x i s.1 s.2) (false,[]) ⟨List.Pairwise.nil,fun y=>by simp,by simp,fun _ y hy=>by simp at hy,fun h=>by cases h⟩ ?_ ?_
  ·rintro i ⟨d,o⟩ hi hI;unfold Rk;simp only at hI;obtain ⟨y,hy⟩:∃ y,L[i]? = some y:=⟨_,List.getElem?_eq_getElem hi⟩
   have hlen:=hI.len;have hmem:y∈L:=List.mem_of_getElem? hy;have e0:decide ((i:Int)<((L.length:Nat):Int))=true:=decide_eq_true (by omega);simp only [Zb hy,e0,cond_true,Option.bind_some,Fk,Bool.cond_false_right];refine Is.onInl (θ:=fun v=>∃ r,v=.inl r/\r.1.length<=i+2 - 1+1 - 1+1/\Kkx L x (i+1) r.2 (r.1++[y])) ?_ ?_ (fun b hb=>by obtain ⟨_,hb,_⟩:=hb; cases hb)
   ·refine Is.cond (fun hc=>?_) (fun hc=>?_)
    ·simp only [Bool.and_eq_true,Bool.not_eq_true',decide_eq_true_eq] at hc;obtain ⟨rfl,hc⟩:=hc;have hol:o.length<=i:=by
      have e:o=L.take i:=hI.asc.one (hL.sublist (List.take_sublist i L)) (fun z=>by rw [hI.mem]; simp);rw [e,List.length_take]; omega
     refine Is.bind (Is.app (by simp only [List.length_cons,List.length_nil,Jw,Enc.b]; omega)) fun M hM=>?_;subst hM;refine Is.val ⟨_,rfl,by simp; omega, ?_⟩;refine ⟨?_,fun z=>?_,by simp; omega,fun h=>(by cases h),fun _ j z hj hz=>?_⟩
     ·unfold Jfo;rw [List.append_assoc,List.pairwise_append];refine ⟨hI.asc,by simp [hc],fun a ha b hb=>?_⟩;have h1:a∈L.take i:=by
       have:=(hI.mem a).1 ha;rcases this with h|⟨h,_⟩
       ·exact h
       ·cases h
      have h2:=hI.no rfl a h1;simp at hb;rcases hb with rfl|rfl <;> omega
     ·rw [Wa hy];simp only [List.mem_append,List.mem_singleton,hI.mem,Bool.false_eq_true,false_and,or_false,true_and];exact or_right_comm
     ·by_cases e:j=i
      ·subst e; rw [hy] at hz; cases hz; exact hc
      ·exact Int.lt_trans hc (hL.at hy hz (by omega))
    ·have hol:o.length<=i+1:=hI.len;refine Is.val ⟨_,rfl,by simp; omega, ?_⟩;have hd:d=false->y.El<x.El:=by
      rintro rfl;simp only [Bool.not_false,Bool.true_and,decide_eq_false_iff_not] at hc;have:=hne y hmem;omega
     refine ⟨?_,fun z=>?_, ?_,fun h z hz=>?_,fun h j z hj hz=>hI.yes h j z (by omega) hz⟩
     ·unfold Jfo;rw [List.pairwise_append];refine ⟨hI.asc,by simp,fun a ha b hb=>?_⟩;simp at hb; subst hb;rcases (hI.mem a).1 ha with h|⟨h,rfl⟩
      ·exact Kgr hL hy h
      ·exact hI.yes h i _ (Nat.le_refl _) hy
     ·rw [Wa hy];simp only [List.mem_append,List.mem_singleton,hI.mem];exact or_right_comm
     ·simp; omega
     ·rw [Wa hy] at hz;rcases List.mem_append.1 hz with hz|hz
      ·exact hI.no h z hz
      ·simp at hz; subst hz; exact hd h
   ·rintro ⟨o',d'⟩ ⟨r,hr,hl,hI'⟩;cases hr;refine Is.bind (Is.app (by simp only [List.length_cons,List.length_nil,Jw,Enc.b]; simp only at hl; omega)) fun M hM=>?_;subst hM;exact Is.val ⟨(d',o'++[y]),by rw [Cv (by omega)],hI'⟩
  ·rintro ⟨d,o⟩ hI;unfold Rk;have e0:decide (((L.length:Nat):Int)<((L.length:Nat):Int))=false:=decide_eq_false (by omega);simp only [e0,cond_false];exact Is.val ⟨_,rfl,hI⟩
 ·rintro ⟨o,d⟩ ⟨r,hr,hI⟩;cases hr;simp only at hI;have hlen:=hI.len;refine Is.onInl (θ:=fun v=>∃ M,v=.inl M/\Jfo M/\(∀ y,y∈M↔y∈L\/y=x)/\M.length<=L.length+1) ?_ (fun v hv=>?_) (fun b hb=>by obtain ⟨_,hb,_⟩:=hb; cases hb)
  ·cases d with
   | true =>
    simp only [Bool.not_true,cond_false];exact Is.val ⟨_,rfl,hI.asc,fun y=>by rw [hI.mem]; simp,hlen⟩
   | false =>
    have hol:o=L:=hI.asc.one hL (fun z=>by rw [hI.mem]; simp);subst hol;simp only [Bool.not_false,cond_true];refine Is.bind (Is.app (by simp only [List.length_cons,List.length_nil,Jw,Enc.b]; omega)) fun M hM=>?_;subst hM;refine Is.val ⟨_,rfl, ?_,fun y=>by simp,by simp⟩;unfold Jfo;rw [List.pairwise_append];refine ⟨hL,by simp,fun a ha b hb=>?_⟩;simp at hb; subst hb;exact hI.no rfl a (by rw [List.take_length]; exact ha)
  ·obtain ⟨M,rfl|_,h1,h2,h3⟩:=hv;exact Is.val ⟨h1,h2,h3⟩
theorem Jmy (L:List Int) (g:Int) (hL:Jbb L) (h:L.length<=900000):Is (La L [g]) fun M=>Jbb M/\(∀ y,y∈M↔y∈L\/y=g):=by
 unfold La;refine Is.bind (Jfv L (by omega)) fun M hM=>?_;have hML:M=L:=hM.1.one hL hM.2;subst hML;obtain ⟨K,q1,q2,q3,-⟩:=Jc0 M g hL (by omega);have s0:Bv [g] (M,0)=some (.inl (K,1)):=by
  unfold Bv;dsimp only;rw [show decide ((0:Int)<((([g]:List Int).length:Nat):Int))=true from rfl];simp only [cond_true,show ixO [g] 0=some g from Zb (i:=0) rfl,Option.bind_some,q1,show w64 (0+1)=1 by decide]
 have s1:Bv [g] (K,1)=some (.inr (.inl K)):=by
  unfold Bv;dsimp only;rw [show decide ((1:Int)<((([g]:List Int).length:Nat):Int))=false from rfl]; rfl
 rw [Vz s0,Qk s1];exact Is.val ⟨q2,q3⟩
theorem Jpt (l:Ja) (P:Int->Bool) (N:Jf->Bool):∀ (n:Nat) (e:Je),((Jgv l P N n e).2.2=false->Jgv l P N n e=(z0,-1,false))/\(0<=(Jgv l P N n e).2.1->(Jgv l P N n e).1=z0)
 | 0,e=>⟨fun _=>rfl,fun _=>rfl⟩
 | n+1,e=>by
  unfold Jgv;split
  ·exact ⟨(fun h=>by cases h),fun _=>rfl⟩
  ·split
   ·exact ⟨(fun h=>by cases h),fun _=>rfl⟩
   ·split
    ·exact ⟨(fun h=>by cases h),fun _=>rfl⟩
    ·split
     ·split
      ·exact ⟨fun _=>rfl,fun _=>rfl⟩
      ·split
       ·exact ⟨fun _=>rfl,fun _=>rfl⟩
       ·exact ⟨(fun h=>by cases h),(fun h=>by simp at h)⟩
     ·exact Jpt l P N n _
structure Kld (y:FG) (n:Nat) (F:List Jf) (G:List Int) (X:List Je):Prop where
 asc:Jfo F
 mem:∀ z,z∈F↔z∈y.flank
 ascg:Jbb G
 memg:∀ z,z∈G↔z∈y.guards
 gaps:X=y.gaps
 lenF:F.length<=n
section
variable {l:Ja} (hs:Sm l) (hl:OkL l) {r:Ji} (hr:Jgo r)
include hs hl hr
theorem Kee (E:List Je) (hE:E.length<=900) :
  Is (Js (Hf l r E) (0,([]:List Jf),([]:List Int),([]:List Je))) fun o=>∃ F G X,o=.inl (F,G,X)/\Kld (Jas l (Pk r) (Jim r) E fg0) E.length F G X:=by
 refine Is.loop (mk:=fun (i:Nat) (m:List Jf×List Int×List Je)=>((i:Int),m.1,m.2.1,m.2.2)) E.length (fun i m=>Kld (Jas l (Pk r) (Jim r) (E.take i) fg0) i m.1 m.2.1 m.2.2) ([],[],[]) ⟨List.Pairwise.nil,fun z=>by simp [Jas,fg0],List.Pairwise.nil,fun z=>by simp [Jas,fg0],by simp [Jas,fg0],by simp⟩ ?_ ?_
 ·rintro i ⟨F,G,X⟩ hi hI;obtain ⟨e,he⟩:∃ e,E[i]? = some e:=⟨_,List.getElem?_eq_getElem hi⟩
  have e0:decide ((i:Int)<((E.length:Nat):Int))=true:=decide_eq_true (by omega);have hy:=Jix l (Pk r) (Jim r) (E.take i) fg0 0 ⟨by simp [fg0],by simp [fg0],by simp [fg0]⟩;have hok:=Ju8 hl (Pk r) (Jim r) (E.take i) fg0 ⟨by simp [fg0],by simp [fg0],by simp [fg0]⟩;rw [List.length_take] at hy;rw [Wa he,Jhz];generalize Jas l (Pk r) (Jim r) (E.take i) fg0=y at hy hok hI ⊢;obtain ⟨a1,a2,a3,a4,a5,a6⟩:=hI;simp only at a1 a2 a3 a4 a5 a6;subst a5;have hGl:G.length<=y.guards.length:=Jq1 (a3.imp fun {x y} h=>by omega) fun x hx=>(a4 x).1 hx;have hg1:=hy.guards;have hx1:=hy.gaps;have hS:=Jkw hs hl (Jgl hr (x:=⟨F,G,y.gaps⟩) ⟨by simp only; omega,by simp only; omega,by simp only; omega⟩) e;rw [Jw3] at hS;have hneed:Jc3 (Jim r) ⟨F,G,y.gaps⟩=Jc3 (Jim r) y:=by
   funext z;simp only [Jc3,Jl9];congr 1;exact decide_eq_decide.2 (a2 z)
  rw [hneed] at hS;have hpass:Pk (Jig r ⟨F,G,y.gaps⟩)=Pk r:=rfl;rw [hpass] at hS;simp only [Jig] at hS;unfold Hf;simp only [e0,cond_true,Zb he,Option.bind_some,hS];simp only [Jas];have hsr:=Jsc hl (Pk r) (Jc3 (Jim r) y) 4 e;have hfa:=Jpt l (Pk r) (Jc3 (Jim r) y) 4 e;have hnew:=Jtf hok e hsr;generalize Jgv l (Pk r) (Jc3 (Jim r) y) 4 e=t at hsr hfa hnew;refine Is.onInl (θ:=fun o=>∃ F' G' X',o=.inl (F',G',X')/\Kld (Jdo y e t) (i+1) F' G' X') ?_ (fun v hv=>?_) (fun b hb=>by obtain ⟨_,_,_,hb,_⟩:=hb; cases hb)
  ·cases h1:t.2.2 with
   | false =>
    have ht:=hfa.1 h1;subst ht;simp only [Bool.not_false,cond_true];refine Is.onInl (θ:=fun o=>o=.inl (y.gaps++[e])) ?_ (fun v hv=>?_) (fun b hb=>by cases hb)
    ·refine Is.bind (Is.app (by simp only [List.length_cons,List.length_nil,Jw,Enc.b]; omega)) fun M hM=>?_;subst hM; exact Is.val rfl
    cases hv;simp only [z0,decide_true,Bool.not_true,cond_false,onInl,Vs,Option.bind_some,show decide ((0:Int) <= -1)=false from rfl];refine Is.val ⟨_,_,_,rfl, ?_⟩;unfold Jdo;simp only [if_true];exact ⟨a1,a2,a3,a4,rfl,by omega⟩
   | true =>
    simp only [Bool.not_true,cond_false,onInl,Vs,Option.bind_some]
    by_cases h2:0<=t.2.1
    ·have hz:=hfa.2 h2;have hp0:decide (t.1.Pos=0)=true:=by rw [hz]; rfl
     obtain ⟨M,q1,q2,q3⟩:=Jmy G t.2.1 a3 (by omega);simp only [hp0,Bool.not_true,cond_false,Option.bind_some,decide_eq_true h2,cond_true,q1];refine Is.val ⟨_,_,_,rfl, ?_⟩;unfold Jdo;simp only [h1,Bool.true_eq_false,if_false,h2,if_true];exact ⟨a1,a2,q2,fun z=>by rw [q3,a4]; simp,rfl,by omega⟩
    ·have hd2:decide (0<=t.2.1)=false:=decide_eq_false h2
     by_cases h3:t.1=z0
     ·have hp0:decide (t.1.Pos=0)=true:=by rw [h3]; rfl
      simp only [hp0,Bool.not_true,cond_false,Option.bind_some,hd2];refine Is.val ⟨_,_,_,rfl, ?_⟩;unfold Jdo;simp only [h1,Bool.true_eq_false,if_false,h2,h3,if_true];exact ⟨a1,a2,a3,a4,rfl,by omega⟩
     ·have hset:=hsr.set h3;have hp0:decide (t.1.Pos=0)=false:=decide_eq_false (by have:=hset.2.2.1; omega);have hst:Jdo y e t=⟨y.flank++[t.1],y.guards,y.gaps⟩:=by
       unfold Jdo;simp only [h1,Bool.true_eq_false,if_false,h2,h3]
      rw [hst] at hnew ⊢;have hne:t.1∈F\/∀ z∈F,z.El≠t.1.El:=by
       by_cases hin:t.1∈F
       ·exact .inl hin
       ·refine .inr fun z hz ez=>hin ?_;have:=hnew.one z (by simp [(a2 z).1 hz]) t.1 (by simp) ez;rw [<- this]; exact hz
      obtain ⟨M,q1,q2,q3,q4⟩:=Jr1 F t.1 a1 hne (by omega);simp only [hp0,Bool.not_false,cond_true,q1,Option.bind_some,hd2,cond_false];refine Is.val ⟨_,_,_,rfl, ?_⟩;exact ⟨q2,fun z=>by rw [q3,a2]; simp,a3,a4,rfl,by omega⟩
  ·obtain ⟨F',G',X',hv,hR⟩:=hv;cases hv;exact Is.val ⟨(F',G',X'),by rw [Cv (by omega)],hR⟩
 ·rintro ⟨F,G,X⟩ hI;unfold Hf;have e0:decide (((E.length:Nat):Int)<((E.length:Nat):Int))=false:=decide_eq_false (by omega);simp only [e0,cond_false];rw [List.take_length] at hI;exact Is.val ⟨F,G,X,rfl,hI⟩
theorem Jos (hp:r.Path.length<=40) (ho:r.Over.length<=40):Ho l r=some (Kjm l r):=by
 have hel:(Fz l (r.Path++r.Over)).length<=900:=by
  have:=Tz l (r.Path++r.Over);rw [List.length_append] at this; omega
 obtain ⟨o,q1,F,G,X,rfl,hR⟩:=Kee hs hl hr (Fz l (r.Path++r.Over)) hel;have hS:=Jms hl (Jgl hr (x:=fg0) ⟨by simp [fg0],by simp [fg0],by simp [fg0]⟩);simp only [Jig,fg0] at hS;unfold Ho;rw [hS,Option.bind_some,q1];simp only [onInl,Vs,Option.bind_some];have hF:F=sF (Jlj l r).flank:=hR.asc.asc.one (Kkz _) fun z=>by rw [Kk5]; exact hR.mem z
 have hG:G=sG (Jlj l r).guards:=hR.ascg.one (Klg _) fun z=>by rw [Klx]; exact hR.memg z
 rw [hF,hG,hR.gaps]
 rfl
end
end PM
namespace PM
open Go Go.RowKit
theorem Jut {l:Ja} (hj:l.Joints.length<=1048576) {r:Ji} (hr:r.Sections.length<=1048576) (x:Kl×Bool) (s:Bool×Je×List Jb) (h:s.2.2.length<=12) :
  Is (Nm l r x s) fun o=>match o with|.inl t=>t.2.2.length<=12/\12 - t.2.2.length<12 - s.2.2.length|.inr o=>∃ v,o=.inl v/\v.length<=12:=by
 obtain ⟨b,e,o⟩:=s;dsimp only at h;unfold Nm;dsimp only;refine Is.bind (φ:=fun _=>True) (Is.cond (fun _=>by rw [Jc9 l o (by omega)]; exact Is.val trivial) fun _=>Is.val trivial) fun b38 _=>?_;refine Is.bind (φ:=fun c=>c=true->o.length<12) (Is.cond (fun _=>Is.val fun e=>by have:=of_decide_eq_true e; omega) fun _=>Is.val fun e=>by cases e) fun b40 h40=>?_;refine Is.bind (φ:=fun c=>c=true->o.length<12) (Is.cond (fun hb=>?_) fun _=>Is.val fun e=>by cases e) fun b41 h41=>?_
 ·exact Is.bind (Is.eq (Jyb l (ovR r o [] []) o e.El (by omega) hr)) fun r42 _=>Is.val fun _=>h40 hb
 ·refine Is.cond (fun hb=>?_) fun _=>Is.val ⟨_,rfl,h⟩;have hlt:=h41 hb;rw [Jap,Option.bind_some];refine Is.ite Ky (fun _=>Is.val ⟨_,rfl,h⟩) fun hne=>?_;obtain ⟨y,hy⟩:∃ y,(Fw l e)[0]? = some y:=⟨_,List.getElem?_eq_getElem (by omega)⟩
  rw [show ixO (Fw l e) 0=some y from Zb hy];simp only [Option.bind_some];refine Is.bind (Is.app (by simp only [List.length_cons,List.length_nil,Jw,Enc.b]; omega)) fun M hM=>?_;subst hM;rw [Px hj];exact Is.val ⟨by simp; omega,by simp; omega⟩
theorem Joz {l:Ja} (hj:l.Joints.length<=1048576) {r:Ji} (hr:r.Sections.length<=1048576):Is (Ii l r) fun r'=>∃ o,o.length<=12/\r'=ovR r o (Jk0 l o) (Ja6 l o):=by
 unfold Ii;have e0:Ig l (Ji.mk r.Name r.Entry r.Exit r.Path r.Points r.Sections r.Approach r.Length [] [] [] r.Flank r.Guards r.Gaps)=some (Kf7 l r):=Jof l (ovR r [] [] []);rw [e0,Option.bind_some];refine Is.cond (fun _=>Is.val ⟨[],by simp,by rw [Kfx]; rfl⟩) fun _=>?_;rw [Vk hj,Option.bind_some];refine Is.onInl (θ:=fun o=>∃ v,o=.inl v/\v.length<=12) (Is.wf (fun s=>s.2.2.length<=12) (fun s=>12 - s.2.2.length) (fun s hs=>(Jut hj hr _ s hs).mono fun o ho=>by cases o <;> exact ho) _ _ (Nat.le_refl _) (by simp)) ?_ fun b hb=>by obtain ⟨_,hb,_⟩:=hb; cases hb
 rintro v ⟨w,e,hw⟩;cases e;rw [Jaw l v (by omega),Pb l v (by omega)];exact Is.val ⟨v,hw,rfl⟩
structure TbR (l:Ja) (rt:Ji):Prop where
 p0:0<rt.Path.length
 p1:rt.Path.length<=12
 ln:rt.Length=w64 (Wg l rt.Path)
 vp:Yv l rt.Path
 few:Jgo rt
 se:rt.Sections=Ja6 l rt.Path
theorem Jyx {l:Ja} {r:Ji} (h:r∈Jkx l):r.Length=w64 (Wg l r.Path)/\Yv l r.Path:=by
 unfold Jkx at h;rw [List.mem_flatMap] at h;obtain ⟨i,hi,h⟩:=h;unfold Jej at h;split at h
 ·split at h
  ·rw [List.mem_map] at h;obtain ⟨k,hk,rfl⟩:=h;rw [List.mem_range] at hk;have hg:=Jfh hk;exact ⟨rfl,(Ja0 (List.mem_of_getElem? hg)).2.2.1⟩
  ·cases h
 ·cases h
theorem Kmj {l:Ja} (h:Sm l) (hO:OkL l) {r:Ji} (hr:r∈Jkx l):Is (Ii l r) fun r1=>Is (Ho l r1) fun r2=>TbR l r2:=by
 have hk:=Khn hr;have hp:=hk.p1;have h1:=Jnj l r.Path;have h2:=Jmx l r.Path;refine (Joz h.jo (r:=r) (by rw [hk.se]; omega)).mono fun r1 hr1=>?_;obtain ⟨o,o1,rfl⟩:=hr1;have h3:=Jnj l o;have h4:=Jmx l o;have hF:Jgo (ovR r o (Jk0 l o) (Ja6 l o)):=⟨by show r.Path.length<=1000; omega,by show o.length<=1000; omega,by show r.Points.length<=1000; rw [hk.po]; omega,by show (Jk0 l o).length<=1000; omega,by show r.Flank.length<=1000; rw [hk.fl]; simp,
  by show r.Sections.length<=1000; rw [hk.se]; omega,by show (Ja6 l o).length<=1000; omega,by show r.Guards.length<=1000; rw [hk.gu]; simp,by show r.Gaps.length<=1000; rw [hk.ga]; simp⟩
 rw [Jos h hO hF (by show r.Path.length<=40; omega) (by show o.length<=40; omega)];exact Is.val ⟨hk.p0,hp,(Jyx hr).1,(Jyx hr).2,Kap l hF (by show r.Path.length<=40; omega) (by show o.length<=40; omega),hk.se⟩
theorem Jk5 {l:Ja} (h:l.Elements.length<=1048576):Is (Dq l) fun L=>L.length<=l.Elements.length:=by
 unfold Dq;refine Is.fold (L:=l.Elements) (mk:=fun i (o:List Int)=>(i,o)) (fun i o=>o.length<=i) [] (by omega) (by simp) (fun i x o hx hi hI=>?_) fun o hI=>?_
 ·unfold Hz;refine Is.inb hi ?_;refine Is.onInl (θ:=fun r=>∃ v,r=.inl v/\v.length<=i+1) (Is.at hx (Is.cond (fun _=>?_) fun _=>Is.val ⟨_,rfl,by omega⟩)) ?_ fun b hb=>by obtain ⟨_,hb,_⟩:=hb; cases hb
  ·refine Is.bind (Is.app (by simp only [List.length_cons,List.length_nil,Jw,Enc.b]; omega)) fun M hM=>?_;subst hM;exact Is.val ⟨_,rfl,by simp; omega⟩
  ·rintro v ⟨w,e,hw⟩;cases e;exact Is.val ⟨_,rfl,hw⟩
 ·unfold Hz;exact Is.oub (Is.val (Is.val hI))
theorem Jlt {l:Ja} (h:Sm l):Is (Zs l) fun r=>r.2=0->r.1.Routes.length<=48/\r.1.Points.length<=1048576/\r.1.Homes.length<=1048576/\∀ rt∈r.1.Routes,TbR l rt:=by
 unfold Zs;rw [Kfg h,Option.bind_some]
 by_cases hc:chk l=0
 ·have hO:=(Kd7 l).1 hc;rw [if_pos hc]
  by_cases h48:48<(Jkx l).length
  ·rw [if_pos h48];exact Is.cond (fun _=>Is.val fun e=>by cases e) fun e=>by simp at e
  ·rw [if_neg h48];refine Is.cond (fun e=>by simp at e) fun _=>?_;have hel:=h.el;refine (Jk5 hel).bind fun P hP=>?_;refine Is.fold (L:=Jkx l) (mk:=fun i (o:List Ji)=>(i,o)) (fun i o=>o.length=i/\∀ rt∈o,TbR l rt) [] (by omega) ⟨rfl,by simp⟩ (fun i x o hx hi hI=>?_) fun o hI=>?_
   ·unfold Md;dsimp only;refine Is.inb hi (Is.at hx ?_);refine (Kmj h hO (List.mem_of_getElem? hx)).bind fun r1 h1=>h1.bind fun r2 h2=>?_;refine Is.bind (Is.app (by have:=hI.1; simp only [List.length_cons,List.length_nil,Jw,Enc.b]; omega)) fun M hM=>?_;subst hM;refine Is.val ⟨_,rfl,by simp [hI.1],fun rt hrt=>?_⟩;rcases List.mem_append.1 hrt with q|q
    ·exact hI.2 rt q
    ·simp at q; subst q; exact h2
   ·unfold Md;dsimp only;refine Is.oub (Is.val ?_);refine Is.fold (L:=P) (mk:=fun i (o:List Int)=>(i,o)) (fun i o=>o.length=i) [] (by omega) rfl (fun i x z hx hi hz=>?_) fun z hz=>?_
    ·unfold Ly;refine Is.inb hi (Is.at hx ?_);rw [Fb,Option.bind_some];refine Is.bind (Is.app (by simp only [List.length_cons,List.length_nil,Jw,Enc.b]; omega)) fun M hM=>?_;subst hM;exact Is.val ⟨_,rfl,by simp [hz]⟩
    ·unfold Ly;refine Is.oub (Is.val (Is.val fun _=>⟨?_, ?_, ?_,hI.2⟩))
     ·show o.length<=48; have:=hI.1; omega
     ·show P.length<=1048576; omega
     ·show z.length<=1048576; omega
 ·rw [if_neg hc];refine Is.cond (fun _=>Is.val fun e=>absurd e hc) fun e=>?_;simp [hc] at e
theorem Kmi (x y:Jb):Jbd x y=true↔x=y:=by cases x; cases y; simp [Jbd]
theorem Kgi {a b:List Jb} (h:a.length<=1000):Is (Gc a b) fun r=>r=true↔a=b:=Jma Kmi (by omega) fun _=>rfl
theorem Kgq {a b:List Jf} (h:a.length<=1000):Is (Ck a b) fun r=>r=true↔a=b:=Jma Jpy (by omega) fun _=>rfl
theorem Kfq {a b:List Int} (h:a.length<=1000):Is (Hj a b) fun r=>r=true↔a=b:=Jma (eqf:=fun x y=>decide (x=y)) (fun _ _=>Ky) (by omega) fun _=>rfl
theorem Kel {a b:List Int} (h:a.length<=1048576):Is (Dm a b) fun r=>r=true↔a=b:=Jma (eqf:=fun x y=>decide (x=y)) (fun _ _=>Ky) h fun _=>rfl
theorem Kl6 {a b:List Je} (h:a.length<=1000):Is (Ie a b) fun r=>r=true↔a=b:=Jma Ng (by omega) fun _=>rfl
theorem Kgo {b:Bool} {y:Option Bool} {p q:Prop} (hb:b=true->p) (hy:Is y fun c=>c=true↔q):Is (bif b then y else some false) fun c=>c=true->p/\q :=
 Is.cond (fun h=>hy.mono fun _ hc e=>⟨hb h,hc.1 e⟩) fun _=>Is.val fun e=>by cases e
theorem Kcb {a b:Ji} (h:Jgo a):Is (Nv a b) fun r=>r=true->a=b:=by
 unfold Nv Cd Wn Zv;simp only [Jek];refine Is.cond (fun _=>Is.val fun e=>by cases e) fun h0=>?_;simp only [Bool.or_eq_false_iff,Bool.not_eq_false',decide_eq_true_eq] at h0;refine (Kgi h.path).bind fun r1 h1=>?_;refine Is.bind (φ:=fun c=>c=false->a.Path=b.Path/\a.Points=b.Points) ?_ fun b2 h2=>?_
 ·cases r1 with
  | false=>exact Is.val fun e=>by cases e
  | true=>exact (Kgq h.pts).bind fun r3 h3=>Is.val fun e=>⟨h1.1 rfl,h3.1 (by simpa using e)⟩
 refine Is.bind (φ:=fun c=>c=false->(a.Path=b.Path/\a.Points=b.Points)/\a.Sections=b.Sections) ?_ fun b4 h4=>?_
 ·cases b2 with
  | true=>exact Is.val fun e=>by cases e
  | false=>exact (Kfq h.secs).bind fun r3 h3=>Is.val fun e=>⟨h2 rfl,h3.1 (by simpa using e)⟩
 refine Is.cond (fun _=>Is.val fun e=>by cases e) fun hb4=>?_;refine (Kgi h.over).bind fun r6 h6=>?_;refine (Kgo h6.1 (Kgq h.ops)).bind fun b7 h7=>?_;refine (Kgo h7 (Kfq h.osecs)).bind fun b9 h9=>?_;refine (Kgo h9 (Kgq h.flank)).bind fun b11 h11=>?_;refine (Kgo h11 (Kfq h.guards)).bind fun b13 h13=>?_;refine (Kgo h13 (Kl6 h.gaps)).mono fun b15 h15=>fun e=>?_;have k:=h15 e;have k4:=h4 hb4;cases a; cases b;simp only at h0 k k4;simp only [Ji.mk.injEq];exact ⟨h0.1.1.1.1,h0.1.1.1.2,h0.1.1.2,k4.1.1,k4.1.2,k4.2,h0.1.2,h0.2,k.1.1.1.1.1,k.1.1.1.1.2,k.1.1.1.2,k.1.1.2,k.1.2,k.2⟩
theorem Kbt {x t:Jx} (hx:∀ rt∈x.Routes,Jgo rt) (hl:x.Routes.length<=48) (h2:x.Points.length<=1048576) (h3:x.Homes.length<=1048576):Is (Ow x t) fun r=>r=true->x.Routes=t.Routes:=by
 unfold Ow;refine Is.bind (φ:=fun c=>c=false->x.Routes.length=t.Routes.length) ?_ fun b1 h1=>?_
 ·refine Is.ifn (p:=x.Routes.length=t.Routes.length) (by rw [decide_eq_true_iff]; omega) (fun _=>Is.val fun e=>by cases e) fun hl=>?_;exact (Kel h2).bind fun r _=>Is.val fun _=>hl
 refine Is.bind (φ:=fun c=>c=false->x.Routes.length=t.Routes.length) ?_ fun b3 h3'=>?_
 ·refine Is.cond (fun _=>Is.val fun e=>by cases e) fun hb=>?_;exact (Kel h3).bind fun r _=>Is.val fun _=>h1 hb
 refine Is.cond (fun _=>Is.val fun e=>by cases e) fun hb=>?_;simp only [Bool.or_eq_false_iff] at hb;have hlen:=h3' hb.1.1;refine Is.all (L:=x.Routes) (fun i y=>t.Routes[i]? = some y) () (by omega) (fun i y hy hi _=>?_) (by simp [Oq]) fun hn=>Is.val fun _=>?_
 ·unfold Oq;have hg:t.Routes[i]? = some t.Routes[i]:=List.getElem?_eq_getElem (by omega);refine Is.inb hi (Is.at hy (Is.at hg ?_));refine (Kcb (hx y (List.mem_of_getElem? hy))).bind fun r hr=>?_;cases r with
  | false=>exact Is.val fun e=>by cases e
  | true=>exact Is.val ⟨rfl,by rw [hg,hr rfl]⟩
 ·apply List.ext_getElem?;intro i;cases hy:x.Routes[i]? with
  | some y=>exact (hn i y hy).symm
  | none=>exact (List.getElem?_eq_none (by have:=List.getElem?_eq_none_iff.1 hy; omega)).symm
structure Mod (k:Jg) (list:List Jk):Prop where
 st:k.Steps.length<=100
 li:list.length<=100
 ro:k.Routes.length<=100
 sa:k.Starts.length<=100
 en:k.Ends.length<=100
 dn:k.Done.length<=100
structure Fin (k:Jg):Prop where
 o:-1073741824<=k.Origin/\k.Origin<=1073741824
 a:-1073741824<=k.At/\k.At<=1073741824
end PM
namespace PM
open Go Go.RowKit
theorem Jif {α:Type} [Enc α] {L:List α} (h:L.length * Enc.b α<=Jw/\L.length<=Jw):Uq ([]:List α) L=some L:=by
 unfold Uq;rw [if_pos (by simpa using h)]; rfl
theorem Keb (o:Nat) {n i:Nat} (h:i<n):Wt o n (i:Int)=some (o+i):=by
 unfold Wt;rw [if_pos (by omega)]; rfl
theorem Jws {α:Type} {L:List α} {n j:Nat} (h:L.length=n):Vi L n j=L[j]?:=by
 unfold Vi;rw [if_pos h]
structure Jwn (k:Jg):Prop where
 steps:k.Steps.length<=1000
 routes:k.Routes.length<=1000
 starts:k.Starts.length<=1000
 ends:k.Ends.length<=1000
 done:k.Done.length<=1000
structure Kib (c:Jn):Prop where
 tr:c.Tracks.length<=1000
 se:c.Sessions.length<=1000
 each:∀ k∈c.Tracks,Jwn k
theorem Jxf {L:List Jb} (h:L.length<=1000):Kz L=some L:=by
 unfold Kz; rw [Jif (by simp only [Jw,Enc.b]; omega)]; rfl
theorem Jag {L:List Int} (h:L.length<=1000):Jy L=some L:=by
 unfold Jy; rw [Jif (by simp only [Jw,Enc.b]; omega)]; rfl
theorem Kin {L:List Jl} (h:L.length<=1000):Uk L=some L:=by
 unfold Uk; rw [Jif (by simp only [Jw,Enc.b]; omega)]; rfl
def tr0 : Jg:=Jg.mk 0 0 0 0 [] [] [] [] [] 0 0 0 0 0
noncomputable def Jrn {B:Type} (T Z:List Jg):(Int×(List Jg))->Option ((Int×(List Jg))⊕((List Jg)⊕B)):=fun (x44,x45) =>
 bif decide (x44<((T.length:Nat):Int)) then (
  (ixO T x44).bind fun x55 =>
  (Kz x55.Steps).bind fun r56 =>
  (Jy x55.Routes).bind fun r57 =>
  (Jy x55.Starts).bind fun r58 =>
  (Jy x55.Ends).bind fun r59 =>
  (Jy x55.Done).bind fun r60 =>
  (Wt 0 (((Z:(List Jg)).map cellsOf).length) x44).bind fun j61 =>
  (Vi x45 (((Z:(List Jg)).map cellsOf).length) j61).bind fun x62 =>
  some (.inl (w64 (x44+1),(x45.set j61 (Jg.mk x55.Id x55.Origin x55.End x55.At r56 r57 r58 r59 r60 x55.Min x55.Sent x55.Accepted x55.Cut x55.CutSeq))))
 ) else (
  some (.inr (.inl x45))
 )
theorem Khr {B:Type} {T:List Jg} (hT:T.length<=1000) (hf:∀ k∈T,Jwn k):Js (Jrn (B:=B) T (List.replicate T.length tr0)) (0,List.replicate T.length tr0)=some (.inl T):=by
 have:Is (Js (Jrn (B:=B) T (List.replicate T.length tr0)) (0,List.replicate T.length tr0)) fun o=>o=.inl T:=by
  refine Is.loop (mk:=fun k (s:List Jg)=>((k:Int),s)) T.length (fun k s=>s.length=T.length/\∀ j,j<k->s[j]? = T[j]?) (List.replicate T.length tr0) ⟨by simp,fun j hj=>by omega⟩ (fun k s hk hI=>?_) (fun s hI=>?_)
  ·have hx:=List.getElem?_eq_getElem hk;have hm:=hf _ (List.mem_of_getElem? hx);generalize T[k]=x at hx hm;have hN:(((List.replicate T.length tr0:List Jg).map cellsOf).length)=T.length:=by simp
   have hxi:Wt 0 (((List.replicate T.length tr0:List Jg).map cellsOf).length) (k:Int)=some k:=by rw [Keb 0 (by rw [hN]; exact hk),Nat.zero_add]
   have hld:∃ y,Vi s (((List.replicate T.length tr0:List Jg).map cellsOf).length) k=some y:=⟨s[k],by rw [Jws (by rw [hN,hI.1])]; exact List.getElem?_eq_getElem (by omega)⟩
   obtain ⟨y,hld⟩:=hld;simp only [Jrn];rw [decide_eq_true (by omega),cond_true];refine Is.at hx ?_;rw [Jxf hm.steps,Option.bind_some,Jag hm.routes,Option.bind_some,Jag hm.starts,Option.bind_some,Jag hm.ends,Option.bind_some,Jag hm.done,Option.bind_some,hxi,Option.bind_some,hld,Option.bind_some];refine Is.val ⟨_,by rw [Cv (by omega)],by rw [List.length_set]; exact hI.1,fun j hj=>?_⟩
   by_cases e:j=k
   ·subst e;rw [List.getElem?_set_self (by omega),hx]
   ·rw [List.getElem?_set_ne (by omega)];exact hI.2 j (by omega)
  ·simp only [Jrn];rw [decide_eq_false (by omega),cond_false];refine Is.val ?_;congr 1;congr 1;apply List.ext_getElem?;intro j
   by_cases hj:j<T.length
   ·exact hI.2 j hj
   ·rw [List.getElem?_eq_none (by omega),List.getElem?_eq_none (by omega)]
 obtain ⟨o,h1,rfl⟩:=this;exact h1
theorem Kko {T:List Jg} (hT:T.length<=1000):Jxn ((T.length:Nat):Int) ((T.length:Nat):Int) 192 tr0=some (List.replicate T.length tr0):=by
 unfold Jxn;rw [if_pos ⟨by omega,by omega,by simp only [Jw]; omega,by simp only [Jw]; omega⟩]
 rfl
def Kft (s:Jl):Int:=if s.Out<1073741824 then w64 (s.Out+1) else s.Out
def Ke1 (s:Jl) (m:Kn) (now:Int):Jl×Kn :=
 (Jl.mk s.Peer (Kft s) s.In s.Heard,Kn.mk m.Kind m.From s.Peer (Kft s) now m.Auth m.Report)
theorem Kjs {α:Type} [Enc α] {L:List α} (h:L.length<=100000):slO L none (some ((L.length:Nat):Int)) (some ((L.length:Nat):Int))=some L:=by
 unfold slO;simp [Jjm]
theorem Kh9 (s:Jl) (m:Kn) (now:Int) (h1:m.Auth.Profile.length<=1000) (h2:m.Auth.Links.length<=1000):Dg s m now=some (Ke1 s m now):=by
 have c1:Ux m.Auth.Profile=some m.Auth.Profile:=by
  unfold Ux;rw [Jif (by simp only [Jw,Enc.b]; omega),Option.bind_some,Kjs (by omega)]; rfl
 have c2:Vd m.Auth.Links=some m.Auth.Links:=by
  unfold Vd;rw [Jif (by simp only [Jw,Enc.b]; omega),Option.bind_some,Kjs (by omega)]; rfl
 unfold Dg Ke1 Kft;simp only [c1,c2,Option.bind_some];cases h:decide (s.Out<1073741824) with
 | true=>rw [if_pos (of_decide_eq_true h)]; rfl
 | false=>rw [if_neg (of_decide_eq_false h)]; rfl
theorem Jwk : Iz=some true:=by kernel_rfl
theorem Kgw {c:Jn} (h1:c.Tracks.length<=1048576):Is (Sa c) fun b=>b=true->Kib c/\c.Tracks.length<=10/\c.Sessions.length<=10/\∀ k∈c.Tracks,k.Steps.length<=100/\k.Routes.length<=60/\k.Starts.length<=60/\k.Ends.length<=60/\k.Done.length<=60:=by
 unfold Sa;refine Is.all (L:=c.Tracks) (fun _ k=>k.Steps.length<=100/\k.Routes.length<=60/\k.Starts.length<=60/\k.Ends.length<=60/\k.Done.length<=60) () (by omega) (fun i x hx hi _=>?_) (by simp [Rc]) (fun hn=>?_)
 ·unfold Rc;refine Is.inb hi (Is.at hx ?_);refine Is.bind (Is.or Ky fun _=>Is.val Ky) fun b1 hb1=>?_;refine Is.bind (Is.or hb1 fun _=>Is.val Ky) fun b2 hb2=>?_;refine Is.bind (Is.or hb2 fun _=>Is.val Ky) fun b3 hb3=>?_;refine Is.bind (Is.or hb3 fun _=>Is.val Ky) fun b4 hb4=>?_;refine Is.ite hb4 (fun _=>Is.val fun q=>by cases q) fun hp=>Is.val ⟨rfl,by omega⟩
 ·have hall:∀ k∈c.Tracks,k.Steps.length<=100/\k.Routes.length<=60/\k.Starts.length<=60/\k.Ends.length<=60/\k.Done.length<=60:=Wp.1 hn;refine Is.bind (Is.and Ky fun _=>Is.val Ky) fun b hb=>Is.val fun q=>?_;have hb:=hb.1 q;exact ⟨⟨by omega,by omega,fun k hk=>by have:=hall k hk; exact ⟨by omega,by omega,by omega,by omega,by omega⟩⟩,by omega,by omega,hall⟩
theorem Jxi {t:Jx} (s:Kd) (h:t.Routes.length<=1048576):Is (Iw t s) fun b=>b=true->t.Routes.length<=50/\s.Routes.length<=50/\∀ r∈t.Routes,r.Sections.length<=30/\r.Path.length<=30:=by
 unfold Iw;refine Is.all (L:=t.Routes) (fun _ r=>r.Sections.length<=30/\r.Path.length<=30) () (by omega) (fun i x hx hi _=>?_) (by simp [Lv]) (fun hn=>?_)
 ·unfold Lv;refine Is.inb hi (Is.at hx ?_);refine Is.bind (Is.or Ky fun _=>Is.val Ky) fun b1 hb1=>?_;refine Is.bind (Is.or hb1 fun _=>Is.val Ky) fun b2 hb2=>?_;refine Is.bind (Is.or hb2 fun _=>Is.val Ky) fun b3 hb3=>?_;refine Is.bind (Is.or hb3 fun _=>Is.val Ky) fun b4 hb4=>?_;refine Is.bind (Is.or hb4 fun _=>Is.val Ky) fun b5 hb5=>?_;refine Is.ite hb5 (fun _=>Is.val fun q=>by cases q) fun hp=>Is.val ⟨rfl,by omega⟩
 ·refine Is.bind (Is.and Ky fun _=>Is.val Ky) fun b1 hb1=>?_;refine Is.bind (Is.and hb1 fun _=>Is.val Ky) fun b2 hb2=>?_;refine Is.bind (Is.and hb2 fun _=>Is.val Ky) fun b3 hb3=>?_;refine Is.bind (Is.and hb3 fun _=>Is.val Ky) fun b4 hb4=>Is.val fun q=>?_;have:=hb4.1 q;exact ⟨by omega,by omega,Wp.1 hn⟩
structure Kd8 (x:Jp):Prop where
 rt:x.Table.Routes.length<=1048576
 tr:x.Center.Tracks.length<=1048576
theorem Jxd {x:Jp} (h:Kd8 x):Is (It x) fun b=>b=true->(Kib x.Center/\x.Center.Tracks.length<=10/\x.Center.Sessions.length<=10/\∀ k∈x.Center.Tracks,k.Steps.length<=100/\k.Routes.length<=60/\k.Starts.length<=60/\k.Ends.length<=60/\k.Done.length<=60) /\
  (x.Table.Routes.length<=50/\x.Inter.Routes.length<=50/\∀ r∈x.Table.Routes,r.Sections.length<=30/\r.Path.length<=30)/\x.Slow.length<=20/\x.Trains.length<=10:=by
 unfold It;refine Is.bind (φ:=fun _=>True) ?_ fun r1 _=>?_
 ·unfold Rj;refine Is.bind (φ:=fun _=>True) (Is.cond (fun _=>Is.val trivial) fun _=>Is.val trivial) fun b1 _=>?_;refine Is.bind (φ:=fun _=>True) (Is.cond (fun _=>Is.val trivial) fun _=>Is.val trivial) fun b2 _=>?_;refine Is.bind (φ:=fun _=>True) (Is.cond (fun _=>Is.val trivial) fun _=>Is.val trivial) fun b3 _=>?_;refine Is.bind (φ:=fun _=>True) (Is.cond (fun _=>Is.val trivial) fun _=>Is.val trivial) fun b4 _=>Is.val trivial
 simp only [Jek];refine Is.bind (φ:=fun b=>b=true->(x.Table.Routes.length<=50/\x.Inter.Routes.length<=50/\∀ r∈x.Table.Routes,r.Sections.length<=30/\r.Path.length<=30)) (Is.cond (fun _=>Jxi _ h.rt) fun _=>Is.val fun q=>by cases q) fun b2 h2=>?_;refine Is.bind (φ:=fun b=>b=true->b2=true/\x.Slow.length<=20) (Is.cond (fun q=>Is.val fun e=>⟨q,by have:=of_decide_eq_true e; omega⟩) fun _=>Is.val fun q=>by cases q) fun b4 h4=>?_;refine Is.bind (φ:=fun b=>b=true->b4=true/\x.Trains.length<=10) (Is.cond (fun q=>Is.val fun e=>⟨q,by have:=of_decide_eq_true e; omega⟩) fun _=>Is.val fun q=>by cases q) fun b5 h5=>?_;refine Is.cond (fun q=>(Kgw h.tr).mono fun c hc e=>?_) fun _=>Is.val fun q=>by cases q
 obtain ⟨q5,q6⟩:=h5 q;obtain ⟨q3,q4⟩:=h4 q5;exact ⟨hc e,h2 q3,q4,q6⟩
end PM
namespace PM
open Go Go.RowKit
theorem Jh3 (L:List Int) (e:Int) (h:L.length<=1048576):Is (Wb L e) fun b=>b=true↔e∈L:=by
 unfold Wb Ea;refine Is.bind (φ:=fun r=>0<=r↔e∈L) ?_ fun r hr=>Is.val (by rw [decide_eq_true_iff]; exact hr);refine Is.all (L:=L) (fun _ x=>e≠x) () (by omega) (fun i x hx hi _=>?_) (by simp [Cp]) (fun hn=>Is.val (iff_of_false (by omega) fun hm=>?_))
 ·unfold Cp;refine Is.inb hi (Is.at hx (Is.cond (fun hc=>Is.val (iff_of_true (by omega) ?_)) fun hc=>Is.val ⟨rfl,of_decide_eq_false hc⟩));rw [of_decide_eq_true hc];exact List.mem_of_getElem? hx
 ·obtain ⟨i,hi⟩:=List.getElem?_of_mem hm;exact hn i e hi rfl
theorem Jwg {T:List Jg} (hT:T.length<=1000) (hf:∀ k∈T,Jwn k) (r:Int):Is (Qb T r) fun b=>b=true↔∃ k∈T,r∈k.Routes:=by
 unfold Qb Ub;refine Is.bind (φ:=fun q=>0<=q↔∃ k∈T,r∈k.Routes) ?_ fun q hq=>Is.val (by rw [decide_eq_true_iff]; exact hq);refine Is.all (L:=T) (fun _ k=>r∉k.Routes) () (by omega) (fun i k hx hi _=>?_) (by simp [Vm]) (fun hn=>Is.val (iff_of_false (by omega) fun ⟨k,hk,hm⟩=>?_))
 ·have hk:=List.mem_of_getElem? hx;have hl:=(hf k hk).routes;unfold Vm;refine Is.inb hi (Is.at hx ?_);unfold Pc;rw [Jek];refine (Jh3 k.Routes r (by omega)).bind fun b hb=>?_;refine Is.ite hb (fun hp=>Is.val (iff_of_true (by omega) ⟨k,hk,hp⟩)) fun hp=>Is.val ⟨rfl,hp⟩
 ·obtain ⟨i,hi⟩:=List.getElem?_of_mem hk;exact hn i k hi hm
def Jey (t:Jx) (s:Kd) (T:List Jg) (e r:Int):Prop :=
 0<=r/\r<(t.Routes.length:Nat)/\r<(s.Routes.length:Nat)/\(∃ x,t.Routes[r.toNat]? = some x/\x.Entry=e)/\(∃ y,s.Routes[r.toNat]? = some y/\y.State=2)/\∀ k∈T,r∉k.Routes
theorem Khi {t:Jx} {s:Kd} {T:List Jg} (ht:t.Routes.length<=1000) (hT:T.length<=1000) (hf:∀ k∈T,Jwn k) (e:Int) :
  Is (Rw t s T e) fun r=>(r = -1/\∀ q,¬ Jey t s T e q)\/(Jey t s T e r/\∀ q,q<r->¬ Jey t s T e q):=by
 unfold Rw;refine Is.all (L:=t.Routes) (fun i _=>¬ Jey t s T e (i:Nat)) () (by omega) (fun i x hx hi hI=>?_) (by simp [Pt]) (fun hn=>Is.val (.inl ⟨rfl,fun q hq=>?_⟩))
 ·have hprev:∀ q,q<(i:Int)->¬ Jey t s T e q:=fun q hq hR=>by
   have h0:=hR.1;have:=hI q.toNat (t.Routes[q.toNat]'(by omega)) (by omega) (List.getElem?_eq_getElem _);rw [show ((q.toNat:Nat):Int)=q by omega] at this;exact this hR
  unfold Pt;refine Is.inb hi ?_;refine Is.onInl (θ:=fun o=>(o=.inl ()/\¬ Jey t s T e (i:Nat))\/(o=.inr (.inr (.inr (-1)))/\∀ q,¬ Jey t s T e q)\/(o=.inr (.inr (.inr (i:Int)))/\Jey t s T e (i:Nat))) (Is.at hx ?_) (fun v hv=>?_) (fun b hb=>?_)
  ·refine Is.cond (fun hc=>Is.val (.inr (.inl ⟨rfl,fun q hq=>?_⟩))) fun hc=>?_
   ·have hc:=of_decide_eq_true hc
    by_cases hqi:q<(i:Int)
    ·exact hprev q hqi hq
    ·have:=hq.2.2.1; omega
   ·have hc:=of_decide_eq_false hc;refine Is.bind (φ:=fun b=>b=true↔¬ (x.Entry=e/\∃ y,s.Routes[i]? = some y/\y.State=2)) ?_ fun b hb=>?_
    ·refine Is.cond (fun hc1=>Is.val (iff_of_true rfl fun q=>?_)) fun hc1=>?_
     ·rw [Bool.not_eq_true',decide_eq_false_iff_not] at hc1;exact hc1 q.1
     ·rw [Bool.not_eq_false',decide_eq_true_iff] at hc1;have hg:=List.getElem?_eq_getElem (show i<s.Routes.length by omega);refine Is.at hg (Is.val ?_);rw [Bool.not_eq_true',decide_eq_false_iff_not,hg];exact ⟨fun q ⟨_,y,e1,e2⟩=>by cases e1; exact q e2,fun q e2=>q ⟨hc1,_,rfl,e2⟩⟩
    refine Is.ite hb (fun hp=>Is.val (.inl ⟨rfl,fun hR=>hp ?_⟩)) fun hp=>?_
    ·obtain ⟨_,_,_,⟨x',e1,e2⟩,⟨y,e3,e4⟩,_⟩:=hR;rw [Int.toNat_natCast] at e1 e3;rw [hx] at e1; cases e1;exact ⟨e2,y,e3,e4⟩
    ·have hp:=Classical.byContradiction hp;refine (Jwg hT hf (i:Int)).bind fun b2 hb2=>?_;refine Is.ifn hb2 (fun hn=>Is.val (.inr (.inr ⟨rfl, ?_⟩))) fun hm=>Is.val (.inl ⟨rfl,fun hR=>?_⟩)
     ·exact ⟨by omega,by omega,by omega,⟨x,by rw [Int.toNat_natCast]; exact hx,hp.1⟩,by rw [Int.toNat_natCast]; exact hp.2,fun k hk hm=>hn ⟨k,hk,hm⟩⟩
     ·obtain ⟨k,hk,hm⟩:=hm;exact hR.2.2.2.2.2 k hk hm
  ·rcases hv with ⟨_,hv⟩|⟨hv,_⟩|⟨hv,_⟩
   ·exact Is.val ⟨rfl,hv⟩
   ·cases hv
   ·cases hv
  ·rcases hb with ⟨hb,_⟩|⟨hb,hq⟩|⟨hb,hq⟩
   ·cases hb
   ·cases hb; exact .inl ⟨rfl,hq⟩
   ·cases hb; exact .inr ⟨hq,hprev⟩
 ·have h0:=hq.1;have:=hn q.toNat (t.Routes[q.toNat]'(by have:=hq.2.1; omega)) (List.getElem?_eq_getElem _);rw [show ((q.toNat:Nat):Int)=q by omega] at this;exact this hq
def Sl (s:Kd) (r:Int):Bool:=if 0<=r/\r<(s.Routes.length:Nat) then ((s.Routes[r.toNat]?).map fun y=>decide (y.State=3)||decide (y.State=4)).getD false else false
theorem Jh2 (r:Int) (s:Kd):Wl r s=some (!Sl s r):=by
 have:Is (Wl r s) fun b=>b = !Sl s r:=by
  unfold Wl Sl;refine Is.bind (Is.or Ky fun _=>Is.val Ky) fun b hb=>Is.ite hb (fun hp=>Is.val (by rw [if_neg (by omega)]; rfl)) fun hp=>?_;rw [if_pos (by omega)];refine (Is.ix (by omega) (by omega)).bind fun y hy=>Is.val ?_;rw [hy];simp
 obtain ⟨b,h1,rfl⟩:=this;exact h1
theorem Kbn {L:List Int} (h:L.length<=1000) (s:Kd):Is (Qj L s) fun r=>r.1.take r.2=L.filter (Sl s):=by
 unfold Qj Uh;have hN:(((L:List Int).map cellsOf).length)=L.length:=List.length_map _;refine Is.bind (φ:=fun r=>(r = -1/\∀ x∈L,Sl s x=true)\/∃ i:Nat,r=(i:Int)/\i<L.length/\(∀ x∈L.take i,Sl s x=true)/\∀ x,L[i]? = some x->Sl s x=false) ?_ fun r hr=>?_
 ·refine Is.all (L:=L) (fun _ x=>Sl s x=true) () (by omega) (fun i x hx hi hI=>?_) (by simp [Yn]) (fun hn=>Is.val (.inl ⟨rfl,Wp.1 hn⟩));unfold Yn;refine Is.inb hi (Is.at hx ?_);rw [Jh2,Option.bind_some];cases hh:Sl s x with
  | true=>exact Is.val ⟨rfl,rfl⟩
  | false=>exact Is.val (.inr ⟨i,rfl,hi,Kfd.2 hI,fun y hy=>by rw [hx] at hy; cases hy; exact hh⟩)
 rw [hN];rcases hr with ⟨rfl,hall⟩|⟨i,rfl,hi,hpre,hdel⟩
 ·rw [decide_eq_true rfl,cond_true];exact Is.val (by simp only; rw [List.take_length,List.filter_eq_self.2 hall])
 ·rw [decide_eq_false (by omega),cond_false];refine Is.onInl (θ:=fun o=>∃ (M:List Int) (p:Nat),o=.inl (M,(p:Int))/\p<=L.length/\M.length=L.length/\M.take p=L.filter (Sl s)) ?_ (fun v hv=>?_) (fun b hb=>by obtain ⟨_,_,e,_⟩:=hb; cases e)
  ·rw [Cv (by omega)];refine Is.loop (mk:=fun k (q:Nat×List Int)=>((q.1:Int),((i+1+k:Nat):Int),q.2)) (L.length - (i+1)) (fun k q=>q.1<=i+k/\q.2.length=L.length/\q.2.take q.1=(L.take (i+1+k)).filter (Sl s)/\∀ j,i+1+k<=j->q.2[j]? = L[j]?) (i,L) ⟨by simp,rfl, ?_,fun j _=>rfl⟩ (fun k q hk hI=>?_) (fun q hI=>?_)
   ·obtain ⟨x,hx⟩:∃ x,L[i]? = some x:=⟨_,List.getElem?_eq_getElem hi⟩
    simp only [Nat.add_zero];rw [Zj hx,List.filter_append,List.filter_eq_self.2 hpre,List.filter_cons_of_neg (by rw [hdel x hx]; simp)];simp
   ·obtain ⟨p,M⟩:=q;obtain ⟨g1,g2,g3,g4⟩:=hI;simp only at g1 g2 g3 g4;have hx:L[i+1+k]? = some (L[i+1+k]'(by omega)):=List.getElem?_eq_getElem _;generalize L[i+1+k]'(by omega)=x at hx;have hMx:M[i+1+k]? = some x:=by rw [g4 _ (Nat.le_refl _)]; exact hx
    simp only [Yg,hN];rw [decide_eq_true (by omega),cond_true];have hp:p<M.length:=by omega
    refine Is.onInl (θ:=fun o=>∃ (M':List Int) (p':Nat),o=.inl (M',(p':Int))/\p'<=i+(k+1)/\M'.length=L.length/\M'.take p'=(L.take (i+1+(k+1))).filter (Sl s)/\∀ j,i+1+(k+1)<=j->M'[j]? = L[j]?) ?_ (fun v hv=>?_) (fun b hb=>by obtain ⟨_,_,e,_⟩:=hb; cases e)
    ·rw [Keb 0 (show i+1+k<L.length by omega),Option.bind_some,Nat.zero_add,Jws g2,hMx,Option.bind_some,Jh2,Option.bind_some];have htk:(L.take (i+1+(k+1))).filter (Sl s)=(L.take (i+1+k)).filter (Sl s)++[x].filter (Sl s):=by
      rw [show i+1+(k+1)=(i+1+k)+1 by omega,Zj hx,List.filter_append]
     cases hh:Sl s x with
     | true =>
      simp only [Bool.not_true,Bool.not_false,cond_true];rw [Keb 0 (show p<L.length by omega),Option.bind_some,Nat.zero_add,Jws g2,List.getElem?_eq_getElem hp,Option.bind_some,Cv (by omega)];refine Is.val ⟨_,p+1,rfl,by omega,by rw [List.length_set]; exact g2, ?_,fun j hj=>?_⟩
      ·have h1:(M.set p x)[p]? = some x:=by rw [List.getElem?_set_self hp]
       have h2:(M.set p x).take p=M.take p:=by
        apply List.ext_getElem?;intro j;rw [List.getElem?_take,List.getElem?_take]
        by_cases hj:j<p
        ·rw [if_pos hj,if_pos hj,List.getElem?_set_ne (by omega)]
        ·rw [if_neg hj,if_neg hj]
       rw [Zj h1,h2,g3,htk];simp [hh]
      ·rw [List.getElem?_set_ne (by omega)];exact g4 j (by omega)
     | false =>
      simp only [Bool.not_true,Bool.not_false,cond_false];refine Is.val ⟨M,p,rfl,by omega,g2, ?_,fun j hj=>g4 j (by omega)⟩;rw [g3,htk];simp [hh]
    ·obtain ⟨M',p',e,q1,q2,q3,q4⟩:=hv;cases e;exact Is.val ⟨(p',M'),by rw [Cv (by omega)]; rfl,q1,q2,q3,q4⟩
   ·obtain ⟨p,M⟩:=q;obtain ⟨g1,g2,g3,g4⟩:=hI;simp only at g1 g2 g3 g4;simp only [Yg,hN];rw [decide_eq_false (by omega),cond_false];exact Is.val ⟨M,p,rfl,by omega,g2,by rw [g3,List.take_of_length_le (by omega)]⟩
  ·obtain ⟨M,p,e,h1,h2,h3⟩:=hv;cases e;have hsl:Jxx L.length (some ((p:Nat):Int)) none=some (p,L.length):=by
    unfold Jxx Jjm;simp [h1]
   have hcl:Jtk M L.length (0+p) (L.length - p) (0:Int)=some (M.take p++List.replicate (L.length - p) 0++M.drop (p+(L.length - p))):=by
    unfold Jtk;rw [Nat.zero_add,if_pos ⟨h2,by omega⟩]
   have hsh:Juu L.length ((p:Nat):Int)=some p:=by
    unfold Juu;rw [if_pos (by omega)];simp
   simp only [hsl,hcl,hsh,Option.bind_some];refine Is.val ?_;simp only;rw [List.append_assoc,List.take_append_of_le_length (by rw [List.length_take]; omega),List.take_take,Nat.min_self];exact h3
theorem Kio {L:List Int} (h:L.length<=1000):Yq L=some L:=by
 unfold Yq; rw [Jif (by simp only [Jw,Enc.b]; omega)]; rfl
def Jg9 (s:Kd) (k:Jg):Jg:=Jg.mk k.Id k.Origin k.End k.At k.Steps k.Routes k.Starts k.Ends (k.Done.filter (Sl s)) k.Min k.Sent k.Accepted k.Cut k.CutSeq
theorem Kaw {k:Jg} (h:Jwn k) (s:Kd):Ca k s=some (Jg9 s k):=by
 have:Is (Ca k s) fun r=>r=Jg9 s k:=by
  unfold Ca;rw [Jxf h.steps,Jag h.routes,Jag h.starts,Jag h.ends,Kio h.done];simp only [Option.bind_some];refine (Kbn h.done s).bind fun r hr=>Is.val ?_;unfold Jg9;rw [hr]
 obtain ⟨r,h1,rfl⟩:=this;exact h1
end PM
namespace PM
open Go Go.RowKit
theorem Jxq {k:Jg} (h:k.Steps.length<=1000) (s:Jb):Is (Bi s k) fun _=>True:=by
 unfold Bi Qf Qo;simp only [Jek];refine Is.bind (φ:=fun _=>True) ?_ fun _ _=>Is.val trivial;refine Is.all (L:=k.Steps) (fun _ _=>True) () (by omega) (fun i x hx hi _=>?_) (by simp [Vv]) fun _=>Is.val trivial;unfold Vv Bo;refine Is.inb hi (Is.at hx ?_);rw [Option.bind_some];exact Is.cond (fun _=>Is.val trivial) fun _=>Is.val ⟨rfl,trivial⟩
theorem Jk4 {k:Jg} (h:k.Steps.length<=1000) {L:List Jb} (hL:L.length<=1000):Is (Kx L k) fun _=>True:=by
 unfold Kx Qs;refine Is.bind (φ:=fun _=>True) ?_ fun _ _=>Is.val trivial;refine Is.all (L:=L) (fun _ _=>True) () (by omega) (fun i x hx hi _=>?_) (by simp [Qq]) fun _=>Is.val trivial;unfold Qq;refine Is.inb hi (Is.at hx ?_);refine (Jxq h x).bind fun r _=>?_;exact Is.cond (fun _=>Is.val trivial) fun _=>Is.val ⟨rfl,trivial⟩
def Kmu (t:Jx) (k:Jg) (i:Int):Int⊕Ji->Prop
 | .inl e=>e≠0
 | .inr x=>0<=i/\t.Routes[i.toNat]? = some x/\k.Steps.length+x.Path.length<=64
theorem Juc {A:Type} {D:Option (Unit⊕A)} {f:Unit->Option A} {G:A->Prop} {p:Prop} (h:Is D fun o=>match o with|.inl _=>p|.inr b=>G b) (hf:p->Is (f ()) G):Is (onInl D f) G :=
 Is.onInl (θ:=fun o=>match o with|.inl _=>p|.inr b=>G b) h (fun _ hv=>hf hv) fun _ hb=>hb
theorem Jye {t:Jx} {k:Jg} (ht:∀ rt∈t.Routes,rt.Path.length<=1000) (h1:k.Steps.length<=1000) (h2:k.Routes.length<=1000) (i:Int):Is (Ej t k i) (Kmu t k i):=by
 unfold Ej;refine Juc (p:=0<=i/\i<(t.Routes.length:Nat)) ?_ fun hi=>?_
 ·refine Is.bind (φ:=fun c=>c=false->0<=i/\i<(t.Routes.length:Nat)) (Is.ite (p:=i<0) Ky (fun _=>Is.val fun e=>by cases e) fun hn=>Is.val fun e=>by have:=of_decide_eq_false e; omega) fun b hb=>?_;exact Is.cond (fun _=>Is.val (by show (1:Int)≠0; decide)) fun e=>Is.val (hb e)
 refine (Is.ix hi.1 hi.2).bind fun x hx=>?_;have hmem:=List.mem_of_getElem? hx;refine Juc (p:=True) (Is.cond (fun _=>Is.val (by show (11:Int)≠0; decide)) fun _=>Is.val trivial) fun _=>?_;refine Juc (p:=True) (Is.cond (fun _=>Is.val (by show (10:Int)≠0; decide)) fun _=>Is.val trivial) fun _=>?_;refine Juc (p:=True) ?_ fun _=>?_
 ·refine (Jk4 h1 (ht x hmem)).bind fun r _=>?_;refine Is.bind (φ:=fun _=>True) (Is.cond (fun _=>Is.val trivial) fun _=>(Jh3 _ _ (by omega)).bind fun _ _=>Is.val trivial) fun b _=>?_;exact Is.cond (fun _=>Is.val (by show (8:Int)≠0; decide)) fun _=>Is.val trivial
 have hp:=ht x hmem;refine Juc (p:=k.Steps.length+x.Path.length<=64) ?_ fun hp=>Is.val ⟨hi.1,hx,hp⟩;refine Is.cond (fun _=>Is.val (by show (2:Int)≠0; decide)) fun e=>Is.val ?_;simp only [Bool.or_eq_false_iff,decide_eq_false_iff_not] at e;have:=e.1;rw [Vc (by omega) (by omega)] at this;omega
theorem Jyn {l:Ja} {x:Ji} (h:x.Path.length<=1000) (hs:x.Sections.length<=1000):Is (Eu l x) fun _=>True:=by
 unfold Eu;refine Is.ite Ky (fun _=>Is.val trivial) fun hne=>?_;rw [Vc (by omega) (by omega),show ((x.Sections.length:Nat):Int) - 1=((x.Sections.length - 1:Nat):Int) by omega];refine (Is.ixn (by omega)).bind fun z _=>?_;refine Is.fold (L:=x.Path) (mk:=fun i (o:Int)=>(o,i)) (fun _ _=>True) 0 (by omega) trivial (fun i y o hy hi _=>?_) fun o _=>?_
 ·unfold Fy;dsimp only;refine Is.inb hi ?_;refine Is.onInl (θ:=fun r=>∃ v,r=.inl v) (Is.at hy ?_) ?_ fun b hb=>by obtain ⟨_,hb⟩:=hb; cases hb
  ·rw [Jjb,Option.bind_some];refine Is.cond (fun _=>?_) fun _=>Is.val ⟨_,rfl⟩;unfold Fa;rw [Jli l _ (by simp)];exact Is.val ⟨_,rfl⟩
  ·rintro v ⟨w,e⟩;exact Is.val ⟨_,rfl,trivial⟩
 ·unfold Fy;exact Is.oub (Is.val (Is.val trivial))
structure ExtP (k k':Jg) (r:Int):Prop where
 routes:k'.Routes=k.Routes++[r]
 steps:k'.Steps.length<=64
 starts:k'.Starts.length=k.Starts.length+1
 ends:k'.Ends.length=k.Ends.length+1
 done:k'.Done=k.Done
 origin:k'.Origin=k.Origin
theorem Jwo (l:Ja) {t:Jx} {k:Jg} (ht:∀ rt∈t.Routes,rt.Path.length<=1000/\rt.Sections.length<=1000) (h:Jwn k) (i:Int) :
  Is (Ei l t k i) fun o=>o.2=0->ExtP k o.1 i:=by
 unfold Ei Jyz;refine (Jye (fun rt hrt=>(ht rt hrt).1) h.steps h.routes i).bind fun o ho=>?_;cases o with
 | inl e=>exact Is.val fun e0=>absurd e0 ho
 | inr x =>
  dsimp only;obtain ⟨_,hx,hp64⟩:=ho;obtain ⟨hp,hs⟩:=ht x (List.mem_of_getElem? hx);have g1:=h.steps;have g2:=h.routes;have g3:=h.starts;have g4:=h.ends;rw [Jxf h.steps,Jag h.routes,Jag h.starts,Jag h.ends,Jag h.done];simp only [Option.bind_some];refine Is.bind (Is.app (by simp only [Jw,Enc.b]; omega)) fun x18 e18=>Is.bind (Is.app (by simp only [List.length_cons,List.length_nil,Jw,Enc.b]; omega)) fun x19 e19=>(Jyn hp hs).bind fun r20 _=>?_;refine Is.bind (Is.app (by simp only [List.length_cons,List.length_nil,Jw,Enc.b]; omega)) fun x21 e21=>Is.bind (Is.app (by simp only [List.length_cons,List.length_nil,Jw,Enc.b]; omega)) fun x22 e22=>?_;exact Is.val fun _=>⟨e19,by rw [e18,List.length_append]; exact hp64,by rw [e21,List.length_append]; rfl,by rw [e22,List.length_append]; rfl,rfl,rfl⟩
structure Jwc (n:Nat) (k:Jg):Prop where
 steps:k.Steps.length<=100
 starts:k.Starts.length=k.Routes.length
 ends:k.Ends.length=k.Routes.length
 done:k.Done.length<=60
 rng:∀ r∈k.Routes,0<=r/\r<(n:Int)
 origin:-1073741824<=k.Origin/\k.Origin<=1073741824
def Ez (T:List Jg):List Int:=T.flatMap (·.Routes)
theorem Jvt {T:List Jg} {r:Int}:r∈Ez T↔∃ k∈T,r∈k.Routes:=by unfold Ez; rw [List.mem_flatMap]
theorem Jsb {n:Nat} {T:List Jg} (h:∀ k∈T,Jwc n k) (hn:(Ez T).Nodup):(Ez T).length<=n:=by
 have:=hn.length_le_of_subset (l₂:=(List.range n).map fun (i:Nat)=>(i:Int)) fun r hr=>by
  obtain ⟨k,hk,hm⟩:=Jvt.1 hr;have:=(h k hk).rng r hm;exact List.mem_map.2 ⟨r.toNat,List.mem_range.2 (by omega),by omega⟩
 simpa using this
theorem Jpn {T:List Jg} {k:Jg} (hk:k∈T):k.Routes.length<=(Ez T).length:=by
 unfold Ez;induction T with
 | nil=>cases hk
 | cons x T ih =>
  rw [List.flatMap_cons,List.length_append];rcases List.mem_cons.1 hk with rfl|hk
  ·omega
  ·have:=ih hk; omega
theorem Jwz {n:Nat} (hn:n<=50) {T:List Jg} (h:∀ k∈T,Jwc n k) (hd:(Ez T).Nodup):∀ k∈T,Jwn k:=fun k hk=>by
 have h1:=Jsb h hd;have h2:=Jpn hk;have h3:=h k hk;have h4:=h3.steps;have h5:=h3.starts;have h6:=h3.ends;have h7:=h3.done;exact ⟨by omega,by omega,by omega,by omega,by omega⟩
theorem Kfb {T:List Jg}:∀ {i:Nat} {k k':Jg} {r:Int},T[i]? = some k->k'.Routes=k.Routes++[r]->(Ez (T.set i k')).Perm (r::Ez T):=by
 induction T with
 | nil=>intro i k k' r h; simp at h
 | cons x T ih =>
  intro i k k' r h hr;unfold Ez at ih ⊢;cases i with
  | zero =>
   simp only [List.getElem?_cons_zero,Option.some.injEq] at h;subst h;rw [List.set_cons_zero,List.flatMap_cons,List.flatMap_cons,hr,List.append_assoc];exact List.perm_middle
  | succ i =>
   rw [List.getElem?_cons_succ] at h;rw [List.set_cons_succ,List.flatMap_cons,List.flatMap_cons];exact ((ih h hr).append_left x.Routes).trans List.perm_middle
theorem Jp4 {T:List Jg} {i:Nat} {k k':Jg} (h:T[i]? = some k) (hr:k'.Routes=k.Routes):Ez (T.set i k')=Ez T:=by
 unfold Ez;induction T generalizing i with
 | nil=>simp at h
 | cons x T ih =>
  cases i with
  | zero =>
   simp only [List.getElem?_cons_zero,Option.some.injEq] at h;subst h;rw [List.set_cons_zero,List.flatMap_cons,List.flatMap_cons,hr]
  | succ i =>
   rw [List.getElem?_cons_succ] at h;rw [List.set_cons_succ,List.flatMap_cons,List.flatMap_cons,ih h]
def Jsm (s:Kd) (r:Int):Prop:=0<=r/\r<(s.Routes.length:Nat)/\∃ y,s.Routes[r.toNat]? = some y/\y.State=2
structure Jgu (t:Jx) (s:Kd) (old T:List Jg):Prop where
 len:T.length=old.length
 ok:∀ k∈T,Jwc t.Routes.length k
 nd:(Ez T).Nodup
 more:∀ (j:Nat) k0 k,old[j]? = some k0->T[j]? = some k->∃ ex,k.Routes=k0.Routes++ex/\∀ r∈ex,Jsm s r
theorem Jgu.set {t:Jx} {s:Kd} {old T:List Jg} (h:Jgu t s old T) {i:Nat} {k k':Jg} (hk:T[i]? = some k) (ho:Jwc t.Routes.length k') (hd:(Ez (T.set i k')).Nodup) (hm:∃ ex,k'.Routes=k.Routes++ex/\∀ r∈ex,Jsm s r):Jgu t s old (T.set i k'):=by
 refine ⟨by rw [List.length_set]; exact h.len,fun y hy=>(List.mem_or_eq_of_mem_set hy).elim (h.ok y) fun e=>e▸ho,hd,fun j k0 y h0 hy=>?_⟩
 by_cases e:j=i
 ·subst e;rw [List.getElem?_set_self (Ue hk)] at hy;cases hy;obtain ⟨ex,e1,e2⟩:=h.more j k0 k h0 hk;obtain ⟨ex',e3,e4⟩:=hm;refine ⟨ex++ex',by rw [e3,e1,List.append_assoc],fun r hr=>?_⟩;rcases List.mem_append.1 hr with hr|hr
  ·exact e2 r hr
  ·exact e4 r hr
 ·rw [List.getElem?_set_ne (fun q=>e q.symm)] at hy;exact h.more j k0 y h0 hy
theorem Jt3 (l:Ja) {t:Jx} {s:Kd} (hn:t.Routes.length<=50) (ht:∀ rt∈t.Routes,rt.Path.length<=1000/\rt.Sections.length<=1000) {old T:List Jg} (hl:old.length<=1000) (h:Jgu t s old T) {i:Nat} (hi:i<old.length) :
  Is (Js (Rd l t s old.length (i:Int)) T) fun o=>∃ T',(o=.inl T'\/o=.inr T')/\Jgu t s old T':=by
 refine Is.wf (I:=fun T=>Jgu t s old T) (μ:=fun T=>t.Routes.length - (Ez T).length) (fun T hT=>?_) t.Routes.length T (Nat.sub_le _ _) h;have hxi:Wt 0 old.length ((i:Nat):Int)=some i:=by rw [Keb 0 hi,Nat.zero_add]
 have hlt:i<T.length:=by rw [hT.len]; exact hi
 have hk:=List.getElem?_eq_getElem hlt;generalize T[i]=k at hk;have hld:Vi T old.length i=some k:=by rw [Jws hT.len]; exact hk
 have hmk:=List.mem_of_getElem? hk;have hf:=Jwz hn hT.ok hT.nd;unfold Rd;simp only [hxi,hld,Option.bind_some];refine Is.bind (φ:=fun _=>True) (Is.cond (fun _=>Is.val trivial) fun _=>Is.val trivial) fun b _=>?_;refine Is.cond (fun _=>?_) fun _=>Is.val ⟨T,.inl rfl,hT⟩;refine (Khi (t:=t) (s:=s) (by omega) (by rw [hT.len]; exact hl) hf k.End).bind fun r hr=>?_;refine Is.cond (fun _=>Is.val ⟨T,.inr rfl,hT⟩) fun hneg=>?_;have hneg:=of_decide_eq_false hneg;rcases hr with ⟨hr,_⟩|⟨hR,_⟩
 ·omega
 refine (Jwo l ht (hf k hmk) r).bind fun o ho=>?_;refine Is.ifn Ky (fun _=>Is.val ⟨T,.inr rfl,hT⟩) fun h0=>?_;have hE:=ho h0;have hok:=hT.ok k hmk;have hnew:r∉Ez T:=fun q=>by
  obtain ⟨y,hy,hm⟩:=Jvt.1 q;exact hR.2.2.2.2.2 y hy hm
 have hper:=Kfb hk hE.routes;have hnd:(Ez (T.set i o.1)).Nodup:=hper.nodup_iff.2 (List.nodup_cons.2 ⟨hnew,hT.nd⟩);have hclear:Jsm s r:=⟨hR.1,hR.2.2.1,hR.2.2.2.2.1⟩
 have hg:Jgu t s old (T.set i o.1):=hT.set hk ⟨by have:=hE.steps; omega,by rw [hE.starts,hE.routes,hok.starts]; simp,by rw [hE.ends,hE.routes,hok.ends]; simp,by rw [hE.done]; exact hok.done,fun q hq=>by
  rw [hE.routes] at hq;rcases List.mem_append.1 hq with hq|hq
  ·exact hok.rng q hq
  ·rw [List.mem_singleton] at hq; subst hq; exact ⟨hR.1,hR.2.1⟩,by rw [hE.origin]; exact hok.origin⟩ hnd ⟨[r],hE.routes,fun q hq=>by rw [List.mem_singleton] at hq; subst hq; exact hclear⟩
 refine Is.val ⟨hg, ?_⟩;have h1:=hper.length_eq;have h2:=Jsb hg.ok hg.nd;rw [List.length_cons] at h1;omega
end PM
namespace PM
open Go Go.RowKit
theorem Jsa {l:Ja} {k:Jg} (hs:k.Steps.length<=1000) (he:k.Ends.length<=1000):Is (Fc l k) fun k'=>k'.Steps.length<=k.Steps.length/\k'.Origin=k.Origin:=by
 unfold Fc;refine Is.bind (φ:=fun _=>True) ?_ fun b _=>?_
 ·unfold Qz Ug;refine Is.bind (φ:=fun _=>True) ?_ fun _ _=>Is.val trivial;refine Is.all (L:=k.Ends) (fun _ _=>True) () (by omega) (fun i x hx hi _=>?_) (by simp [Ua]) fun _=>Is.val trivial;unfold Ua Dy;refine Is.inb hi (Is.at hx ?_);rw [Option.bind_some];exact Is.cond (fun _=>Is.val trivial) fun _=>Is.val ⟨rfl,trivial⟩
 refine Is.cond (fun _=>Is.val ⟨Nat.le_refl _,rfl⟩) fun _=>?_;refine Is.onInl (θ:=fun o=>∃ M,o=.inl M/\M.length<=k.Steps.length) ?_ (fun v hv=>by obtain ⟨M,e,h⟩:=hv; cases e; exact Is.val ⟨h,rfl⟩) (fun b hb=>by obtain ⟨_,e,_⟩:=hb; cases e);refine Is.loop (mk:=fun i (s:Int×List Jb)=>(s.1,(i:Int),s.2)) k.Steps.length (fun i s=>s.2.length<=i) (k.Origin,[]) (Nat.le_refl _) (fun i s hi hI=>?_) (fun s hI=>?_)
 ·obtain ⟨at_,M⟩:=s;simp only at hI;obtain ⟨x,hx⟩:∃ x,k.Steps[i]? = some x:=⟨_,List.getElem?_eq_getElem hi⟩
  simp only [Gk];rw [decide_eq_true (by omega),cond_true];refine Is.onInl (θ:=fun o=>∃ M' a',o=.inl (M',a')/\M'.length<=i+1) (Is.at hx ?_) (fun v hv=>?_) (fun b hb=>by obtain ⟨_,_,e,_⟩:=hb; cases e)
  ·refine Is.onInl (θ:=fun o=>∃ M',o=.inl M'/\M'.length<=i+1) ?_ (fun v hv=>?_) (fun b hb=>by obtain ⟨_,e,_⟩:=hb; cases e)
   ·refine Is.cond (fun _=>(Is.app (by simp only [List.length_cons,List.length_nil,Jw,Enc.b]; omega)).bind fun M' hM'=>Is.val ⟨M',rfl,by rw [hM',List.length_append]; simp; omega⟩) fun _=>Is.val ⟨M,rfl,by omega⟩
   ·have hv':v.length<=i+1:=by
     obtain ⟨M',e,h⟩:=hv;cases e; exact h
    refine Is.bind (φ:=fun b=>b=true↔(0<=x.El/\x.El<(l.Elements.length:Nat))) (Is.and Ky fun _=>Is.val Ky) fun b hb=>?_;refine Is.ite hb (fun hp=>?_) fun _=>Is.val ⟨v,_,rfl,hv'⟩;exact (Is.ix hp.1 hp.2).bind fun y _=>Is.val ⟨v,_,rfl,hv'⟩
  ·obtain ⟨M',a',e,h⟩:=hv;cases e;exact Is.val ⟨(a',M'),by rw [Cv (by omega)],h⟩
 ·obtain ⟨at_,M⟩:=s;simp only at hI;simp only [Gk];rw [decide_eq_false (by omega),cond_false];exact Is.val ⟨M,rfl,hI⟩
structure OffP (k k':Jg):Prop where
 routes:k'.Routes=k.Routes
 steps:k'.Steps=k.Steps
 starts:k'.Starts=k.Starts
 ends:k'.Ends=k.Ends
 done:k'.Done=k.Done
 origin:k'.Origin=k.Origin
theorem Kdu {l:Ja} (h:Sm l) (hO:OkL l) {k:Jg} (hs:k.Steps.length<=100) (he:k.Ends.length<=1000) (ho:-1073741824<=k.Origin/\k.Origin<=1073741824) {list:List Jk} (hl:list.length<=1048576) :
  Is (Se l list k) fun o=>OffP k o.1/\o.2.Auth.Profile.length<=1000/\o.2.Auth.Links.length<=1000:=by
 unfold Se;refine Is.onInl (θ:=fun o=>∃ (c:Int) (w:Jg),o=.inl (c,w.Id,w.Origin,w.End,w.At,w.Steps,w.Routes,w.Starts,w.Ends,w.Done,w.Min,w.Sent,w.Accepted,w.Cut,w.CutSeq)/\w.Steps.length<=100/\w.Origin=k.Origin) ?_ (fun v hv=>?_) (fun b hb=>by obtain ⟨_,_,e,_⟩:=hb; cases e)
 ·refine Is.cond (fun _=>(Jsa (l:=l) (k:=k) (by omega) he).bind fun w hw=>Is.val ⟨_,w,rfl,by have:=hw.1; omega,hw.2⟩) fun _=>Is.val ⟨_,k,rfl,hs,rfl⟩
 ·obtain ⟨c,w,e,w1,w2⟩:=hv;cases e;refine (Kgu h hO (k:=w) w1 (by rw [w2]; exact ho) hl (w64 (k.Sent+1))).bind fun r hr=>?_;refine Is.ifn Ky (fun _=>Is.val ⟨⟨rfl,rfl,rfl,rfl,rfl,rfl⟩,Nat.zero_le _,Nat.zero_le _⟩) fun h0=>Is.val ⟨⟨rfl,rfl,rfl,rfl,rfl,rfl⟩, ?_, ?_⟩
  ·have:=hr.1;show r.1.Profile.length<=1000;omega
  ·have:=(hr.2 h0).2.1.2.2.1;show r.1.Links.length<=1000;omega
theorem Jyg {l:Ja} (h:Sm l) (hO:OkL l) {t:Jx} {s:Kd} {list:List Jk} (hl:list.length<=1048576) (hn:t.Routes.length<=50) (ht:∀ rt∈t.Routes,rt.Path.length<=1000/\rt.Sections.length<=1000) {old:List Jg} (hlen:old.length<=1000) (hg:Jgu t s old old) {S:List Jl} (hS:S.length=old.length) (now:Int) :
  Is (Js (Ir l t s list now old.length S) (0,old,S,([]:List Kn))) fun o=>∃ T S' M,o=.inl (T,S',M)/\Jgu t s old T:=by
 refine Is.loop (mk:=fun i (q:List Jg×List Jl×List Kn)=>((i:Int),q.1,q.2.1,q.2.2)) old.length (fun i q=>Jgu t s old q.1/\q.2.1.length=old.length/\q.2.2.length<=i) (old,S,[]) ⟨hg,hS,Nat.le_refl _⟩ (fun i q hi hI=>?_) (fun q hI=>?_)
 ·obtain ⟨T,S1,M⟩:=q;obtain ⟨g1,g2,g3⟩:=hI;simp only at g1 g2 g3;have hxi:Wt 0 old.length ((i:Nat):Int)=some i:=by rw [Keb 0 hi,Nat.zero_add]
  have hlt:i<T.length:=by rw [g1.len]; exact hi
  have hk:=List.getElem?_eq_getElem hlt;generalize T[i]=k at hk;have hmk:=List.mem_of_getElem? hk;have hf:=Jwz hn g1.ok g1.nd k hmk;have hok:=g1.ok k hmk;have hld:Vi T old.length i=some k:=by rw [Jws g1.len]; exact hk
  simp only [Ir];rw [decide_eq_true (by omega),cond_true];simp only [hxi,hld,Option.bind_some,Kaw hf];have hsr:Ez (T.set i (Jg9 s k))=Ez T:=Jp4 hk rfl;have hg2:Jgu t s old (T.set i (Jg9 s k)):=g1.set hk ⟨hok.steps,hok.starts,hok.ends,Nat.le_trans (List.length_filter_le _ _) hok.done,hok.rng,hok.origin⟩ (by rw [hsr]; exact g1.nd) ⟨[],by show k.Routes=k.Routes++[]; rw [List.append_nil],fun r hr=>by cases hr⟩;refine Is.bind (φ:=fun T'=>Jgu t s old T') ?_ fun T' hT'=>?_
  ·refine Is.onInl (Jt3 l hn ht hlen hg2 hi) (fun v hv=>?_) (fun b hb=>?_)
   ·obtain ⟨T',e|e,hT'⟩:=hv
    ·cases e; exact Is.val hT'
    ·cases e
   ·obtain ⟨T',e|e,hT'⟩:=hb
    ·cases e
    ·cases e; exact hT'
  ·have hlt':i<T'.length:=by rw [hT'.len]; exact hi
   have hk':=List.getElem?_eq_getElem hlt';generalize T'[i]=k' at hk';have hmk':=List.mem_of_getElem? hk';have hf':=Jwz hn hT'.ok hT'.nd k' hmk';have hok':=hT'.ok k' hmk';have hld':Vi T' old.length i=some k':=by rw [Jws hT'.len]; exact hk'
   simp only [hld',Option.bind_some];refine (Kdu h hO hok'.steps hf'.ends hok'.origin hl).bind fun o ho=>?_;obtain ⟨o1,o2,o3⟩:=ho;have n2:(((S:List Jl).map cellsOf).length)=old.length:=by rw [List.length_map,hS]
   have hse:=List.getElem?_eq_getElem (show i<S1.length by omega);generalize S1[i]'(by omega)=se at hse;have hlds:Vi S1 old.length i=some se:=by rw [Jws g2]; exact hse
   simp only [n2,hxi,hlds,Option.bind_some,Kh9 _ _ _ o2 o3];refine (Is.app (by simp only [List.length_cons,List.length_nil,Jw,Enc.b]; omega)).bind fun M' hM'=>?_;have hor:Ez (T'.set i o.1)=Ez T':=Jp4 hk' o1.routes;refine Is.val ⟨(T'.set i o.1,S1.set i (Ke1 se o.2 now).1,M'),by rw [Cv (by omega)], ?_,by rw [List.length_set]; exact g2,by rw [hM',List.length_append,List.length_singleton]; omega⟩;exact hT'.set hk' ⟨by rw [o1.steps]; exact hok'.steps,by rw [o1.starts,o1.routes]; exact hok'.starts,by rw [o1.ends,o1.routes]; exact hok'.ends,by rw [o1.done]; exact hok'.done,by rw [o1.routes]; exact hok'.rng,by rw [o1.origin]; exact hok'.origin⟩ (by rw [hor]; exact hT'.nd) ⟨[],by rw [o1.routes,List.append_nil],fun r hr=>by cases hr⟩
 ·obtain ⟨T,S1,M⟩:=q;simp only [Ir];rw [decide_eq_false (by omega),cond_false];exact Is.val ⟨T,S1,M,rfl,hI.1⟩
theorem Kgs {l:Ja} (h:Sm l) (hO:OkL l) {t:Jx} {s:Kd} {list:List Jk} (hl:list.length<=1048576) (hn:t.Routes.length<=50) (ht:∀ rt∈t.Routes,rt.Path.length<=1000/\rt.Sections.length<=1000) {c:Jn} (hc:Kib c) (hs:c.Sessions.length=c.Tracks.length) (hg:Jgu t s c.Tracks c.Tracks) (now:Int) :
  Is (Gu l t s list c now) fun r=>Jgu t s c.Tracks r.1.Tracks:=by
 unfold Gu;refine Is.bind (φ:=fun x=>x=(c.Tracks,c.Tracks.length,c.Sessions)) ?_ fun x hx=>?_
 ·refine Is.to (Kko hc.tr) ?_;refine Is.onInl (θ:=fun o=>o=.inl c.Tracks) (Is.eq (Khr hc.tr hc.each)) (fun v hv=>?_) (fun b hb=>by cases hb);cases hv;rw [Kin hc.se,Option.bind_some];exact Is.val (by simp)
 ·subst hx;unfold Cy;simp only [Option.bind_some];refine Is.cond (fun _=>Is.val hg) fun _=>?_;refine Is.onInl (Jyg h hO hl hn ht hc.tr hg hs now) (fun v hv=>?_) (fun b hb=>by obtain ⟨_,_,_,e,_⟩:=hb; cases e);obtain ⟨T,S',M,e,hT⟩:=hv;cases e;exact Is.val hT
end PM
namespace PM
open Go Go.RowKit
theorem Kdz {L M:List Int} (hM:Jbb M) (hm:∀ y,y∈M↔y∈L):M.length=L.length↔L.Nodup:=by
 have hMn:M.Nodup:=hM.imp fun h=>by omega
 constructor
 ·intro he;rw [List.nodup_iff_count];intro a;refine Classical.byContradiction fun hc=>?_;have hsub:M ⊆ L.erase a:=fun y hy=>by
   by_cases e:y=a
   ·subst e;refine List.count_pos_iff.1 ?_;rw [List.count_erase_self];omega
   ·exact (List.mem_erase_of_ne e).2 ((hm y).1 hy)
  have h1:=hMn.length_le_of_subset hsub;have ha:a∈L:=List.count_pos_iff.1 (by omega);rw [List.length_erase_of_mem ha] at h1;have:=List.length_pos_of_mem ha;omega
 ·intro hn;exact ((List.perm_ext_iff_of_nodup hMn hn).2 hm).length_eq
theorem Ju7 {c:Jn} (hl:c.Tracks.length<=1000) (hr:(Ez c.Tracks).length<=1000000):Is (Fj c) fun b=>b=true↔¬ (Ez c.Tracks).Nodup:=by
 unfold Fj;refine Is.onInl (θ:=fun o=>o=.inl (Ez c.Tracks)) ?_ (fun v hv=>?_) (fun b hb=>by cases hb)
 ·refine Is.loop (mk:=fun k (s:List Int)=>((k:Int),s)) c.Tracks.length (fun k s=>s=Ez (c.Tracks.take k)) [] rfl (fun k s hk hI=>?_) (fun s hI=>?_)
  ·obtain ⟨x,hx⟩:∃ x,c.Tracks[k]? = some x:=⟨_,List.getElem?_eq_getElem hk⟩
   have htk:Ez (c.Tracks.take (k+1))=Ez (c.Tracks.take k)++x.Routes:=by
    unfold Ez; rw [Zj hx,List.flatMap_append]; simp
   have hpre:(Ez (c.Tracks.take (k+1))).length<=(Ez c.Tracks).length:=by
    have:Ez c.Tracks=Ez (c.Tracks.take (k+1))++Ez (c.Tracks.drop (k+1)):=by
     unfold Ez; rw [<- List.flatMap_append,List.take_append_drop]
    rw [this,List.length_append]; omega
   rw [htk,List.length_append] at hpre;simp only [Lr];rw [decide_eq_true (by omega),cond_true];refine Is.at hx ?_;refine (Is.app (by rw [hI]; simp only [Jw,Enc.b]; omega)).bind fun M hM=>Is.val ⟨M,by rw [Cv (by omega)],by rw [hM,hI,htk]⟩
  ·simp only [Lr];rw [decide_eq_false (by omega),cond_false];exact Is.val (by rw [hI,List.take_length])
 ·cases hv;refine (Jfv _ (by omega)).bind fun M hM=>Is.val ?_;have:=Kdz hM.1 hM.2;rw [Bool.not_eq_true',decide_eq_false_iff_not,<- this];omega
theorem Jve {x:Jp} {k0 k:Jg} {ex:List Int} (h0:k.Routes=k0.Routes++ex) (h1:∀ r∈ex,Jsm x.Inter r) (hl:k.Routes.length<=1000) :
  Is (Js (Ww x k0 k) 0) fun o=>o=.inl ():=by
 refine Is.loop (mk:=fun i (_:Unit)=>(i:Int)) k.Routes.length (fun _ _=>True) () trivial (fun i _ hi _=>?_) (fun _ _=>?_)
 ·obtain ⟨r,hr⟩:∃ r,k.Routes[i]? = some r:=⟨_,List.getElem?_eq_getElem hi⟩
  unfold Ww;rw [decide_eq_true (by omega),cond_true];refine Is.bind (φ:=fun b=>b=false) ?_ fun b1 hb1=>?_
  ·refine Is.cond (fun hc=>?_) fun _=>Is.val rfl;have hc:=of_decide_eq_true hc;have hr0:k0.Routes[i]? = some r:=by rw [h0,List.getElem?_append_left (by omega)] at hr; exact hr
   refine Is.at hr (Is.at hr0 (Is.val ?_));rw [decide_eq_true rfl]; rfl
  rw [hb1,cond_false];refine Is.bind (φ:=fun b=>b=false) ?_ fun b2 hb2=>?_
  ·refine Is.cond (fun hc=>?_) fun _=>Is.val rfl;have hc:=of_decide_eq_true hc;have hm:r∈ex:=by
    rw [h0,List.getElem?_append_right (by omega)] at hr;exact List.mem_of_getElem? hr
   obtain ⟨c1,c2,y,c3,c4⟩:=h1 r hm;refine Is.at hr ?_;refine Is.bind (φ:=fun b=>b=false) ?_ fun b3 hb3=>?_
   ·rw [decide_eq_false (by omega),cond_false];exact Is.at hr (Is.val (decide_eq_false (by omega)))
   rw [hb3,cond_false];refine Is.bind (φ:=fun b=>b=false) (Is.at hr ?_) fun b4 hb4=>Is.val hb4;refine (Is.ix c1 c2).bind fun z hz=>Is.val ?_;rw [c3] at hz; cases hz;rw [decide_eq_true c4]; rfl
  rw [hb2,cond_false];exact Is.val ⟨(),by rw [Cv (by omega)],trivial⟩
 ·unfold Ww;rw [decide_eq_false (by omega),cond_false];exact Is.val rfl
theorem Kdo {l:Ja} (h:Sm l) {r:Jx×Int} (hr:Zs l=some r) (h0:r.2=0):OkL l:=by
 refine (Kd7 l).1 (Classical.byContradiction fun hc=>?_);unfold Zs at hr;rw [Kfg h,if_neg hc,Option.bind_some] at hr;simp only at hr;rw [decide_eq_false hc] at hr;cases hr;exact hc h0
theorem Jl1 {L:List Int} (hl:L.length<=1000):Is (Vu L) fun b=>b=true->∀ x∈L,-1073741824<=x/\x<=1073741824:=by
 unfold Vu;refine Is.all (L:=L) (fun _ x => -1073741824<=x/\x<=1073741824) () (by omega) (fun i x hx hi _=>?_) (by simp [Bq]) (fun hn=>Is.val fun _=>Wp.1 hn);unfold Bq;refine Is.inb hi (Is.at hx ?_);refine Is.cond (fun _=>Is.val fun e=>by cases e) fun hc=>Is.val ⟨rfl, ?_⟩;simp only [Bool.or_eq_false_iff,decide_eq_false_iff_not] at hc;omega
theorem Ju9 {l:Ja} (h:Sm l) {t:Jx} (ht:t.Routes.length<=1000) {k:Jg} (hs:k.Steps.length<=100) (hr:k.Routes.length<=60) (h1:k.Starts.length<=60) (h2:k.Ends.length<=60) (h3:k.Done.length<=60) :
  Is (Gz l t k) fun b=>b=true->Jwc t.Routes.length k:=by
 unfold Gz;refine (Jec l k.Steps h.jo (by omega)).bind fun r1 _=>?_;refine Is.bind (φ:=fun b=>b=false->k.Starts.length=k.Routes.length) (Is.cond (fun _=>Is.val fun e=>by cases e) fun _=>Is.val fun e=>by
  rw [Bool.not_eq_false',decide_eq_true_iff] at e; omega) fun b2 hb2=>?_
 refine Is.bind (φ:=fun b=>b=false->b2=false/\k.Ends.length=k.Routes.length) (Is.cond (fun _=>Is.val fun e=>by cases e) fun hc=>Is.val fun e=>by
  rw [Bool.not_eq_false',decide_eq_true_iff] at e; exact ⟨hc,by omega⟩) fun b3 hb3=>?_
 refine Is.bind (φ:=fun b=>b=false->b3=false/\(-1073741824<=k.Origin/\k.Origin<=1073741824)) (Is.cond (fun _=>Is.val fun e=>by cases e) fun hc=>(Jl1 (by simp)).bind fun c hco=>Is.val fun e=>⟨hc,hco (by simpa using e) k.Origin (by simp)⟩) fun b4 hb4=>?_;refine Is.bind (φ:=fun b=>b=false->b4=false) (Is.cond (fun _=>Is.val fun e=>by cases e) fun hc=>(Jl1 (by omega)).bind fun c _=>Is.val fun _=>hc) fun b6 hb6=>?_;refine Is.bind (φ:=fun b=>b=false->b6=false) (Is.cond (fun _=>Is.val fun e=>by cases e) fun hc=>(Jl1 (by omega)).bind fun c _=>Is.val fun _=>hc) fun b8 hb8=>?_;refine Is.cond (fun _=>Is.val fun e=>by cases e) fun hc=>?_;obtain ⟨q3,q4⟩:=hb4 (hb6 (hb8 hc));obtain ⟨q2,q5⟩:=hb3 q3;have q6:=hb2 q2;refine Is.onInl (θ:=fun o=>(∃ v,o=.inl v/\∀ r∈k.Routes,0<=r/\r<(t.Routes.length:Nat))\/o=.inr false) ?_ (fun v hv=>?_) (fun b hb=>?_)
 ·refine Is.loop (mk:=fun i (q:Bool)=>(q,(i:Int))) k.Routes.length (fun i _=>∀ r∈k.Routes.take i,0<=r/\r<(t.Routes.length:Nat)) (decide (k.CutSeq=0)) (fun r hr=>by simp at hr) (fun i q hi hI=>?_) (fun q hI=>?_)
  ·obtain ⟨r,hr1⟩:∃ r,k.Routes[i]? = some r:=⟨_,List.getElem?_eq_getElem hi⟩
   simp only [Ih];rw [decide_eq_true (by omega),cond_true];refine Is.at hr1 ?_;refine Is.bind (Is.or Ky fun _=>Is.val Ky) fun b26 hb26=>?_;refine Is.ite hb26 (fun _=>Is.val (.inr rfl)) fun hp=>?_;refine Is.bind (φ:=fun _=>True) ?_ fun b27 _=>Is.val ⟨b27,by rw [Cv (by omega)],fun z hz=>?_⟩
   ·refine Is.cond (fun _=>Is.val trivial) fun _=>?_;refine Is.bind (φ:=fun _=>True) (Is.cond (fun _=>?_) fun _=>Is.val trivial) fun _ _=>Is.val trivial;refine (Is.ixn (show i<k.Ends.length by omega)).bind fun e _=>?_;exact (Is.ix (by omega) (by omega)).bind fun y _=>Is.val trivial
   ·rw [Zj hr1,List.mem_append,List.mem_singleton] at hz;rcases hz with hz|rfl
    ·exact hI z hz
    ·omega
  ·simp only [Ih];rw [decide_eq_false (by omega),cond_false];exact Is.val (.inl ⟨q,rfl,by rw [List.take_length] at hI; exact hI⟩)
 ·rcases hv with ⟨v',e,hrng⟩|e
  ·exact Is.val fun _=>⟨hs,q6,q5,h3,hrng,q4⟩
  ·cases e
 ·rcases hb with ⟨_,e,_⟩|e
  ·cases e
  ·cases e;intro e; cases e
structure Kf0 (x:Jp):Prop where
 bulk:Kd8 x
 sm:Sm x.Layout
 nm:∀ t∈x.Trains,t.Name.size<=1048576
theorem Kdf {x:Jp} (h:Kf0 x):Is (Iy x) fun b=>b=true->OkL x.Layout/\Kib x.Center/\x.Table.Routes.length<=50/\x.Slow.length<=20/\(∀ r∈x.Table.Routes,r.Sections.length<=30/\r.Path.length<=30)/\(∀ k∈x.Center.Tracks,Jwc x.Table.Routes.length k)/\(∀ r∈x.Table.Routes,TbR x.Layout r)/\∀ k∈x.Center.Tracks,k.Routes.length<=60:=by
 unfold Iy;obtain ⟨r1,e1,h1⟩:=Jlt h.sm;rw [e1,Option.bind_some];refine (Jxd h.bulk).bind fun r2 h2=>?_;refine Is.bind (φ:=fun b=>b=false->(r2=true/\r1.2=0)/\r1.1.Routes=x.Table.Routes) ?_ fun b3 hb3=>?_
 ·refine Is.cond (fun _=>Is.val fun e=>by cases e) fun hc=>?_;simp only [Bool.or_eq_false_iff,Bool.not_eq_false',decide_eq_true_eq] at hc;obtain ⟨q1,q2,q3,q4⟩:=h1 hc.2;exact (Kbt (t:=x.Table) (fun rt hrt=>(q4 rt hrt).few) q1 q2 q3).bind fun r4 hr4=>Is.val fun e=>⟨hc,hr4 (by simpa using e)⟩
 refine Is.cond (fun _=>Is.val fun e=>by cases e) fun hc=>?_;obtain ⟨⟨q1,q2⟩,q3⟩:=hb3 hc;obtain ⟨⟨f1,f2,f3,f4⟩,⟨g1,g2,g3⟩,g4,g5⟩:=h2 q1;have hO:=Kdo h.sm e1 q2;refine Is.all (L:=x.Trains) (fun _ _=>True) () (by omega) (fun i y hy hi _=>?_) (by simp [Lz]) (fun _=>?_)
 ·unfold Lz;refine Is.inb hi (Is.at hy ?_);rw [Jnf (h.nm y (List.mem_of_getElem? hy)),Option.bind_some];exact Is.cond (fun _=>Is.val fun e=>by cases e) fun _=>Is.val ⟨rfl,trivial⟩
 ·unfold Re;rw [Jek];refine Is.all (L:=x.Center.Tracks) (fun _ k=>Jwc x.Table.Routes.length k) () (by omega) (fun i k hk hi _=>?_) (by simp [Lq]) (fun hn=>Is.val fun _=>⟨hO,f1,g1,g4,g3,Wp.1 hn,fun rt hrt=>(h1 q2).2.2.2 rt (by rw [q3]; exact hrt),fun k hk=>(f4 k hk).2.1⟩);unfold Lq;refine Is.inb hi (Is.at hk ?_);obtain ⟨a1,a2,a3,a4,a5⟩:=f4 k (List.mem_of_getElem? hk);refine (Ju9 h.sm (t:=x.Table) (by omega) a1 a2 a3 a4 a5).bind fun r hr=>?_;cases r with
  | true=>exact Is.val ⟨rfl,hr rfl⟩
  | false=>exact Is.val fun e=>by cases e
theorem Jib {x:Jp} (h:Kf0 x) (now:Int):Wq x now=some true:=by
 have:Is (Wq x now) fun b=>b=true:=by
  unfold Wq;rw [Jwk];refine (Kdf h).bind fun r1 h1=>?_;refine Is.bind (φ:=fun b=>b=false->r1=true/\x.Center.Sessions.length=x.Center.Tracks.length) ?_ fun b2 hb2=>?_
  ·refine Is.cond (fun _=>Is.val fun e=>by cases e) fun hc=>?_;unfold Hn;rw [Option.bind_some];refine Is.val fun e=>?_;rw [Bool.not_eq_false',decide_eq_true_iff] at e;exact ⟨by simpa using hc,by omega⟩
  cases b2 with
  | true=>exact Is.val rfl
  | false =>
   obtain ⟨q1,hss⟩:=hb2 rfl;obtain ⟨hO,hF,hn,hsl,hrt,hok,_⟩:=h1 q1;have hbig:(Ez x.Center.Tracks).length<=1000000:=by
    have h1:=Rz (fun k:Jg=>k.Routes) 1000 x.Center.Tracks fun k hk=>(hF.each k hk).routes;have h2:=hF.tr;have h3:x.Center.Tracks.length * 1000<=1000 * 1000:=Nat.mul_le_mul_right _ h2;unfold Ez;omega
   refine Is.bind (φ:=fun b=>b=false->(Ez x.Center.Tracks).Nodup) ?_ fun b4 hb4=>?_
   ·rw [cond_false,Jek];refine (Ju7 hF.tr hbig).mono fun b hb e=>Classical.byContradiction fun hn=>?_;rw [hb.2 hn] at e; cases e
   refine Is.cond (fun _=>Is.val rfl) fun hc4=>?_;have hnd:=hb4 hc4;have hg:Jgu x.Table x.Inter x.Center.Tracks x.Center.Tracks:=⟨rfl,hok,hnd,fun j k0 k e1 e2=>by rw [e1] at e2; cases e2; exact ⟨[],by simp,fun r hr=>by cases hr⟩⟩
   refine (Kgs h.sm hO (list:=x.Slow) (by omega) hn (fun rt hm=>by have:=hrt rt hm; omega) hF hss hg now).bind fun r7 hG=>?_;have hlen:r7.1.Tracks.length=x.Center.Tracks.length:=hG.len;have hT1000:r7.1.Tracks.length<=1000:=by rw [hlen]; exact hF.tr
   have hrl:=Jsb hG.ok hG.nd;refine Is.bind (φ:=fun b=>b=false) ?_ fun b8 hb8=>?_
   ·rw [decide_eq_true (by omega)];simp only [Bool.not_true,cond_false,Jek];refine (Ju7 hT1000 (by omega)).mono fun b hb=>?_;rw [<- Bool.not_eq_true,hb];exact fun q=>q hG.nd
   rw [hb8,cond_false];refine Is.onInl (θ:=fun o=>o=.inl ()) ?_ (fun v _=>Is.val rfl) (fun b hb=>by cases hb);refine Is.loop (mk:=fun i (_:Unit)=>(i:Int)) r7.1.Tracks.length (fun _ _=>True) () trivial (fun i _ hi _=>?_) (fun _ _=>?_)
   ·obtain ⟨k,hk⟩:∃ k,r7.1.Tracks[i]? = some k:=⟨_,List.getElem?_eq_getElem hi⟩
    obtain ⟨k0,hk0⟩:∃ k,x.Center.Tracks[i]? = some k:=⟨_,List.getElem?_eq_getElem (by omega)⟩
    obtain ⟨ex,e1,e2⟩:=hG.more i k0 k hk0 hk;unfold Zo;rw [decide_eq_true (by omega),cond_true];refine Is.at hk0 (Is.at hk ?_);have hle:¬ ((k.Routes.length:Nat):Int)<((k0.Routes.length:Nat):Int):=by rw [e1,List.length_append]; omega
    rw [decide_eq_false hle,cond_false];have hkl:=Jpn (List.mem_of_getElem? hk);refine Is.onInl (Jve (x:=x) e1 e2 (by omega)) (fun v _=>Is.val ⟨(),by rw [Cv (by omega)],trivial⟩) (fun b hb=>by cases hb)
   ·unfold Zo;rw [decide_eq_false (by omega),cond_false];exact Is.val rfl
 obtain ⟨b,h1,rfl⟩:=this;exact h1
end PM
