/-
 Plain laws, joined: LnkA WalkA WalkB WalkC WalkD WalkE WalkG WalkH WalkI WalkJ WalkK LayA LayB LayC LayD LayE.
-/
import Derived.Test.YtombbpdpmagngaaGreatDoorDen
import Derived.Test.YtombbpdpmagngaaGreatDoorPlA
/-
 PLAIN, LINKING A: linked balises: Valid, Overdue, equal lists.
-/
namespace PM
open Go Go.RowKit
/-! ### Loops -/
theorem Is.wf {S ρ:Type} {step:S→Option (S⊕ρ)} (I:S→Prop) (μ:S→Nat) {θ:ρ→Prop} (hs:∀ s,I s→Is (step s) fun o=>match o with|.inl t=>I t∧μ t<μ s|.inr r=>θ r) :
  ∀ (n:Nat) (s:S),μ s≤n→I s→Is (Kl step s) θ:=by
 intro n
 induction n with
 | zero =>
  intro s hn hI
  obtain ⟨o,h1,h2⟩:=hs s hI
  cases o with
  | inl t=>exact absurd h2.2 (by omega)
  | inr r=>exact ⟨r,En h1,h2⟩
 | succ n ih =>
  intro s hn hI
  obtain ⟨o,h1,h2⟩:=hs s hI
  cases o with
  | inl t =>
   obtain ⟨r,h3,h4⟩:=ih t (by omega) h2.1
   exact ⟨r,by rw [Rr h1]; exact h3,h4⟩
  | inr r=>exact ⟨r,En h1,h2⟩
theorem Jlj {x:Option Bool}:(x.bind fun r=>some r)=x:=by cases x <;> rfl
theorem Jl2 {α:Type} {eqf:α→α→Bool} (heq:∀ x y,eqf x y=true↔x=y) {L M:List α} (h:L.length≤1048576) {step:Int→Option (Int⊕(Unit⊕Bool))}
  (hs:∀ x3,step x3=bif decide (x3<((L.length:Nat):Int)) then ((ixO L x3).bind fun x6=>(ixO M x3).bind fun x7=>bif (!(eqf x6 x7)) then some (.inr (.inr false)) else some (.inl (w64 (x3+1)))) else some (.inr (.inl ()))) :
  Is (bif (!(decide (((L.length:Nat):Int)=((M.length:Nat):Int)))) then some false else onInl (α:=Unit) (β:=Bool) (Kl step 0) fun _=>some true) fun b=>b=true↔L=M:=by
 refine Is.ifn (p:=L.length=M.length) (by rw [decide_eq_true_iff]; omega) (fun hl=>Is.val (iff_of_false Bool.false_ne_true fun e=>hl (congrArg _ e))) (fun hl=>?_)
 refine Is.all (L:=L) (fun i x=>M[i]? = some x) () (by omega) (fun i x hx hi _=>?_) (by rw [hs]; simp) (fun hn=>Is.val (iff_of_true rfl ?_))
 ·rw [hs]
  have hg:M[i]? = some M[i]:=List.getElem?_eq_getElem (by omega)
  refine Is.inb hi (Is.at hx (Is.at hg ?_))
  refine Is.ifn (heq _ _) (fun hb=>Is.val (iff_of_false Bool.false_ne_true fun e=>?_)) (fun hb=>Is.val ⟨rfl,by rw [hg,hb]⟩)
  subst e; rw [hg] at hx; cases hx; exact hb rfl
 ·apply List.ext_getElem?
  intro i
  cases hx:L[i]? with
  | some x=>exact (hn i x hx).symm
  | none=>exact (List.getElem?_eq_none (by have:=List.getElem?_eq_none_iff.1 hx; omega)).symm
/-! ### Linked balises -/
/-! ### The laws of Valid and Overdue -/
end PM
/-
 PLAIN, WALK A: what the plain functions of the chapters 6, 7 and 9 come to.
-/
namespace PM
open Go Go.RowKit
def Ph (a0 a1 a2:Int):Int×Bool :=
 match Kj.find? (fun x=>decide (x.kind_=a0)&&decide (x.in_=a1)&&decide (x.out_=a2)) with
 | some x=>(x.need_,true)
 | none=>(0,false)
def Pq (a0 a1:Int):List Int :=
 if a0=1∧a1=0 then [1] else if a0=1∧a1=1 then [0] else
 if a0=2∧a1=0 then [1,2] else if a0=2∧a1=1 then [0] else if a0=2∧a1=2 then [0] else
 if a0=3∧a1=0 then [1] else if a0=3∧a1=1 then [0] else if a0=3∧a1=2 then [3] else if a0=3∧a1=3 then [2] else []
def Tc (a0:Int):Int:=if a0=1 then 2 else if a0=2 then 3 else if a0=3 then 4 else 0
theorem Jqr (a:Int):a=1∨a=2∨a=3∨(¬ a=1∧¬ a=2∧¬ a=3∧¬ 1=a∧¬ 2=a∧¬ 3=a):=by omega
theorem Tm (a:Int):a=0∨a=1∨a=2∨a=3∨(¬ a=0∧¬ a=1∧¬ a=2∧¬ a=3∧¬ 0=a∧¬ 1=a∧¬ 2=a∧¬ 3=a):=by omega
set_option maxRecDepth 10000
theorem Jhh (a0 a1 a2:Int):Mj a0 a1 a2=some (Ph a0 a1 a2):=by
 unfold Mj Ph
 rw [Ja9 (fun x=>decide (x.kind_=a0)&&decide (x.in_=a1)&&decide (x.out_=a2)) (fun x=>.inr (x.need_,true)) (.inl ()) Kj (by decide)]
 ·cases Kj.find? (fun x=>decide (x.kind_=a0)&&decide (x.in_=a1)&&decide (x.out_=a2)) <;> rfl
 ·intro i x h
  have hi:i<10:=Qg h
  simp only [Lq,Ng h,show decide ((i:Int)<10)=true by simp; omega,cond_true,Option.bind_some]
 ·simp [Lq,Kj]
theorem Xe (a0 a1 a2:Int):Ej a0 a1 a2=some (Ph a0 a1 a2):=by
 unfold Ej Ph
 rcases Jqr a0 with rfl|rfl|rfl|⟨h1,h2,h3,h4,h5,h6⟩
 ·simp [Kj,Bool.cond_eq_ite]
  rcases Tm a1 with rfl|rfl|rfl|rfl|⟨g0,g1,g2,g3,g4,g5,g6,g7⟩ <;> rcases Tm a2 with rfl|rfl|rfl|rfl|⟨e0,e1,e2,e3,e4,e5,e6,e7⟩ <;> simp [*] <;> omega
 ·simp [Kj,Bool.cond_eq_ite]
  rcases Tm a1 with rfl|rfl|rfl|rfl|⟨g0,g1,g2,g3,g4,g5,g6,g7⟩ <;> rcases Tm a2 with rfl|rfl|rfl|rfl|⟨e0,e1,e2,e3,e4,e5,e6,e7⟩ <;> simp [*] <;> (repeat' split) <;> first|rfl|omega
 ·simp [Kj,Bool.cond_eq_ite]
  rcases Tm a1 with rfl|rfl|rfl|rfl|⟨g0,g1,g2,g3,g4,g5,g6,g7⟩ <;> rcases Tm a2 with rfl|rfl|rfl|rfl|⟨e0,e1,e2,e3,e4,e5,e6,e7⟩ <;> simp [*] <;> omega
 ·simp [Kj, *]
def Jwp (a0 a1:Int) (_:Nat) (x:Qd) (l:List Int):Option (List Int⊕(List Int⊕List Int)) :=
 bif (decide (x.kind_=a0)&&decide (x.in_=a1)) then (Vv l [x.out_]).map .inl else some (.inl l)
theorem Jgy (a0 a1:Int):Dg a0 a1=onInl (Jjp (Jwp a0 a1) (fun l=>.inl l) Kj 0 []) some:=by
 unfold Dg
 rw [← Jhf (step:=Fy a0 a1) (fun (i:Nat) (l:List Int)=>((i:Int),l))]
 ·rfl
 ·intro i x l h
  have hi:i<10:=Qg h
  simp only [Fy,Ng h,show decide ((i:Int)<10)=true by simp; omega,cond_true,Option.bind_some,Jwp]
  cases decide (x.kind_=a0)&&decide (x.in_=a1)
  ·simp [onInl,Du,Vy (n:=(i:Int)+1) (by omega) (by omega)]
  ·cases Vv l [x.out_] <;> simp [onInl,Du,Vy (n:=(i:Int)+1) (by omega) (by omega)]
 ·intro l; simp [Fy,Kj]
theorem Ji4 (a0 a1:Int):Dg a0 a1=some (Pq a0 a1):=by
 rw [Jgy]
 rcases Jqr a0 with rfl|rfl|rfl|⟨h1,h2,h3,h4,h5,h6⟩ <;> rcases Tm a1 with rfl|rfl|rfl|rfl|⟨g0,g1,g2,g3,g4,g5,g6,g7⟩ <;>
  simp [Jjp,Kj,Jwp,onInl,Du,Pq,Vv,Enc.b,Kn, *]
def Jws (a0 a1:Int) (i:Nat) (_:Unit) (l:List Int):Option (List Int⊕(List Int⊕List Int)) :=
 bif (Ph a0 a1 i).2 then (Vv l [(i:Int)]).map .inl else some (.inl l)
theorem Je8 (a0 a1:Int):Cc a0 a1=onInl (Jjp (Jws a0 a1) (fun l=>.inl l) [(),(),(),()] 0 []) some:=by
 unfold Cc
 rw [← Jhf (step:=Eb a0 a1) (fun (i:Nat) (l:List Int)=>((i:Int),l))]
 ·rfl
 ·intro i x l h
  have hi:i<4:=Qg h
  simp only [Eb,show decide ((i:Int)<4)=true by simp; omega,cond_true,Xe,Option.bind_some,Jws]
  cases (Ph a0 a1 i).2
  ·simp [onInl,Du,Vy (n:=(i:Int)+1) (by omega) (by omega)]
  ·cases Vv l [(i:Int)] <;> simp [onInl,Du,Vy (n:=(i:Int)+1) (by omega) (by omega)]
 ·intro l; simp [Eb]
theorem Jgs (a0 a1:Int):Cc a0 a1=some (Pq a0 a1):=by
 rw [Je8]
 rcases Jqr a0 with rfl|rfl|rfl|⟨h1,h2,h3,h4,h5,h6⟩ <;> rcases Tm a1 with rfl|rfl|rfl|rfl|⟨g0,g1,g2,g3,g4,g5,g6,g7⟩ <;>
  simp [Jjp,Ph,Kj,Jws,onInl,Du,Pq,Vv,Enc.b,Kn, *]
end PM
/-
 PLAIN, WALK B: joined ends, branches, possible steps, lengths, and ways.
-/
namespace PM
open Go Go.RowKit
/-- Small enough for every sum of lengths to be far from the ends of the numbers. -/
structure Sm (l:Jd):Prop where
 sec:l.Sections.length≤1048576
 el:l.Elements.length≤1048576
 jo:l.Joints.length≤1048576
 sg:l.Signals.length≤1048576
 ba:l.Balises.length≤1048576
 nm:l.Name.size≤1048576
 secn:∀ x∈l.Sections,x.size≤1048576
 eln:∀ x∈l.Elements,x.Name.size≤1048576
 sgn:∀ x∈l.Signals,x.Name.size≤1048576
theorem Em (x y:Jg):Ka x y=true↔x=y:=by
 cases x; cases y; simp [Ka]
def Qc (l:Jd) (e:Jg):Jg×Bool :=
 match l.Joints.find? fun j=>Ka j.A e||Ka j.B e with
 | some j=>(bif Ka j.A e then j.B else j.A,true)
 | none=>(⟨0,0⟩,false)
theorem Ix {l:Jd} (h:l.Joints.length≤1048576) (e:Jg):Ww l e=some (Qc l e):=by
 unfold Ww Qc
 rw [Ja9 (fun j=>Ka j.A e||Ka j.B e) (fun j=>.inr (bif Ka j.A e then j.B else j.A,true)) (.inl ()) l.Joints (by omega)]
 ·cases l.Joints.find? (fun j=>Ka j.A e||Ka j.B e) <;> rfl
 ·intro i x hx
  have hi:=Qg hx
  simp only [Cx,Ng hx,show decide ((i:Int)<((l.Joints.length:Nat):Int))=true by simp; omega,cond_true,Option.bind_some]
  cases Ka x.A e <;> cases Ka x.B e <;> rfl
 ·simp [Cx]
theorem Mr {l:Jd} (h:l.Joints.length≤1048576) (e:Jg):Yv l e=some (Qc l e):=by
 unfold Yv Qc
 rw [Ja9 (fun j=>Ka j.A e||Ka j.B e) (fun j=>.inr (bif Ka j.A e then j.B else j.A,true)) (.inl ()) l.Joints (by omega)]
 ·cases l.Joints.find? (fun j=>Ka j.A e||Ka j.B e) <;> rfl
 ·intro i x hx
  have hi:=Qg hx
  simp only [Er,Ng hx,show decide ((i:Int)<((l.Joints.length:Nat):Int))=true by simp; omega,cond_true,Option.bind_some]
  cases Ka x.A e <;> cases Ka x.B e <;> rfl
 ·simp [Er]
theorem Pf {l:Jd} (h:l.Joints.length≤1048576) (s:Jb):Ym s l=some (Qc l ⟨s.El,s.Out⟩):=by
 simp [Ym,Ix h]
theorem Jea {l:Jd} (h:l.Joints.length≤1048576) (s:Jb):Ha l s=some (Qc l ⟨s.El,s.Out⟩):=by
 simp [Ha,Bo,Pf h]
theorem Re {l:Jd} (h:l.Joints.length≤1048576) (s:Jb):Bv l s=some (Qc l ⟨s.El,s.Out⟩):=by
 simp [Bv,Mr h]
def Qr (l:Jd) (i:Int):Bool:=decide (0≤i)&&decide (i<((l.Elements.length:Nat):Int))
theorem Hv (l:Jd) (i:Int):Yj l i=some (Qr l i):=by
 unfold Yj Qr
 cases decide (0≤i) <;> simp
theorem Fz (l:Jd) (i:Int):Wc l i=some (Qr l i):=by
 unfold Wc Qr
 cases decide (0≤i) <;> simp
theorem Ur {l:Jd} {i:Int} (h:Qr l i=true):∃ x,ixO l.Elements i=some x∧l.Elements[i.toNat]? = some x:=by
 simp only [Qr,Bool.and_eq_true,decide_eq_true_eq] at h
 obtain ⟨x,h1,h2⟩:=Is.ix (L:=l.Elements) h.1 h.2
 exact ⟨x,h1,h2⟩
/-! ### Branches -/
theorem Je5 (a0 a1:Int):(Pq a0 a1).length≤2:=by
 unfold Pq
 (repeat' split) <;> simp
theorem Jcf (a:Jg) (L:List Int) (h:L.length≤10):Is (Kl (Zr a L) (0,([]:List Jb))) fun o=>o=.inl (L.map fun x=>⟨a.El,a.Side,x⟩):=by
 refine Is.loop (mk:=fun (i:Nat) (m:List Jb)=>((i:Int),m)) L.length (fun i m=>m=(L.take i).map fun x=>⟨a.El,a.Side,x⟩) [] rfl ?_ ?_
 ·rintro i m hi rfl
  unfold Zr
  refine Is.cond (fun _=>?_) (fun hb=>by simp at hb; omega)
  refine Is.bind (Is.ixn hi) fun x hx=>?_
  refine Is.bind (Is.app ?_) fun M hM=>?_
  ·simp only [List.length_map,List.length_take,List.length_cons,List.length_nil,Kn,Enc.b]; omega
  ·subst hM
   refine Is.val ⟨(L.take (i+1)).map fun x=>⟨a.El,a.Side,x⟩, ?_,rfl⟩
   rw [Ed (by omega),List.take_add_one,hx]
   simp
 ·rintro m rfl
  unfold Zr
  refine Is.cond (fun hb=>by simp at hb) (fun _=>Is.val ?_)
  simp
theorem Jbo (a:Jg) (L:List Int) (h:L.length≤10):Is (Kl (Yr a L) (0,([]:List Jb))) fun o=>o=.inl (L.map fun x=>⟨a.El,a.Side,x⟩):=by
 refine Is.loop (mk:=fun (i:Nat) (m:List Jb)=>((i:Int),m)) L.length (fun i m=>m=(L.take i).map fun x=>⟨a.El,a.Side,x⟩) [] rfl ?_ ?_
 ·rintro i m hi rfl
  unfold Yr
  refine Is.cond (fun _=>?_) (fun hb=>by simp at hb; omega)
  refine Is.bind (Is.ixn hi) fun x hx=>?_
  refine Is.bind (Is.app ?_) fun M hM=>?_
  ·simp only [List.length_map,List.length_take,List.length_cons,List.length_nil,Kn,Enc.b]; omega
  ·subst hM
   refine Is.val ⟨(L.take (i+1)).map fun x=>⟨a.El,a.Side,x⟩, ?_,rfl⟩
   rw [Ed (by omega),List.take_add_one,hx]
   simp
 ·rintro m rfl
  unfold Yr
  refine Is.cond (fun hb=>by simp at hb) (fun _=>Is.val ?_)
  simp
def Vc (l:Jd) (a:Jg):List Jb :=
 bif Qr l a.El then match l.Elements[a.El.toNat]? with
  | some x=>(Pq x.Kind a.Side).map fun o=>⟨a.El,a.Side,o⟩
  | none=>[]
 else []
theorem Jes (l:Jd) (a:Jg):Zl l a=some (Vc l a):=by
 unfold Zl Vc
 rw [Hv]
 simp only [Option.bind_some]
 cases h:Qr l a.El with
 | false=>rfl
 | true =>
  obtain ⟨x,h1,h2⟩:=Ur h
  obtain ⟨o,h3,rfl⟩:=Jcf a (Pq x.Kind a.Side) (by have:=Je5 x.Kind a.Side; omega)
  simp [h1,h2,Ji4,h3,onInl,Du]
theorem Jc9 (l:Jd) (a:Jg):Bi l a=some (Vc l a):=by
 unfold Bi Vc
 rw [Fz]
 simp only [Option.bind_some]
 cases h:Qr l a.El with
 | false=>rfl
 | true =>
  obtain ⟨x,h1,h2⟩:=Ur h
  obtain ⟨o,h3,rfl⟩:=Jbo a (Pq x.Kind a.Side) (by have:=Je5 x.Kind a.Side; omega)
  simp [h1,h2,Jgs,h3,onInl,Du]
theorem Jbl (l:Jd) (a:Jg):(Vc l a).length≤2:=by
 unfold Vc
 cases Qr l a.El with
 | false=>simp
 | true =>
  simp only [cond_true]
  split
  ·rename_i x _
   have:=Je5 x.Kind a.Side
   simpa using this
  ·simp
/-! ### Possible steps -/
def Mv (l:Jd) (s:Jb):Int×Bool :=
 bif Qr l s.El then match l.Elements[s.El.toNat]? with
  | some x=>Ph x.Kind s.In s.Out
  | none=>(0,false)
 else (0,false)
theorem Sa (l:Jd) (s:Jb):Zh l s=some (Mv l s):=by
 unfold Zh Mv
 rw [Hv]
 simp only [Option.bind_some]
 cases h:Qr l s.El with
 | false=>rfl
 | true =>
  obtain ⟨x,h1,h2⟩:=Ur h
  simp [h1,h2,Jhh]
end PM
/-
 PLAIN, WALK C: lengths and ways.
-/
namespace PM
open Go Go.RowKit
def lenOf (l:Jd) (s:Jb):Int:=bif Qr l s.El then ((l.Elements[s.El.toNat]?).map (·.Length)).getD 0 else 0
def Ov (l:Jd):List Jb→Int
 | []=>0
 | s::r=>lenOf l s+Ov l r
theorem Ja1 (l:Jd):∀ a b:List Jb,Ov l (a++b)=Ov l a+Ov l b
 | [],b=>by simp [Ov]
 | s::r,b=>by simp only [List.cons_append,Ov,Ja1 l r b]; omega
theorem Jax (l:Jd) (way:List Jb) (h:way.length≤1048576):Cp l way=some (w64 (Ov l way)):=by
 unfold Cp
 have:Is (Kl (Cm l way) (0,0)) fun o=>o=.inl (w64 (Ov l way)):=by
  refine Is.loop (mk:=fun (i:Nat) (x:Int)=>(x,(i:Int))) way.length (fun i x=>x=w64 (Ov l (way.take i))) 0 rfl ?_ ?_
  ·rintro i x hi rfl
   unfold Cm
   refine Is.cond (fun _=>?_) (fun hb=>by simp at hb; omega)
   refine Is.onInl (θ:=fun o=>o=.inl (w64 (Ov l (way.take (i+1))))) ?_ ?_ ?_
   ·refine Is.bind (Is.ixn hi) fun s hs=>?_
    have e:Ov l (way.take (i+1))=Ov l (way.take i)+lenOf l s:=by
     rw [List.take_add_one,hs,Option.toList_some,Ja1]; simp [Ov]
    rw [Hv]
    refine Is.bind (Is.eq rfl) fun b hb=>?_
    refine Is.cond (fun hb'=>?_) (fun hb'=>?_)
    ·subst hb
     obtain ⟨x,h1,h2⟩:=Ur hb'
     refine Is.bind (Is.eq h1) fun y hy=>?_
     subst hy
     refine Is.val ?_
     rw [e,Jqv]
     simp [lenOf,hb',h2]
    ·subst hb
     refine Is.val ?_
     rw [e]
     simp [lenOf,hb']
   ·rintro v hv
    cases hv
    exact Is.val ⟨_,by rw [Ed (by omega)],rfl⟩
   ·intro b hb; cases hb
  ·rintro x rfl
   unfold Cm
   refine Is.cond (fun hb=>by simp at hb) (fun _=>Is.val ?_)
   rw [List.take_length]
 obtain ⟨o,h1,rfl⟩:=this
 simp [h1,onInl,Du]
/-! ### Ways -/
def Ms (l:Jd) (way:List Jb) (i:Nat):Prop :=
 ∃ s,way[i]? = some s∧(Mv l s).2=true∧(∀ k t,k<i→way[k]? = some t→t.El≠s.El)∧(∀ p,0<i→way[i - 1]? = some p→Qc l ⟨p.El,p.Out⟩=(⟨s.El,s.In⟩,true))
def Zy (l:Jd) (way:List Jb):Prop:=1≤way.length∧way.length≤64∧∀ i,i<way.length→Ms l way i
theorem Js7 (s:Jb) (L:List Jb) (h:L.length≤1048576):Is (Kl (De s L) 0) fun o=>match o with
  | .inl _=>∀ t∈L,t.El≠s.El
  | .inr x=>x=.inr (.inr (.inr false))∧∃ t∈L,t.El=s.El:=by
 refine Is.loop (mk:=fun (i:Nat) (_:Unit)=>(i:Int)) L.length (fun i _=>∀ k t,k<i→L[k]? = some t→t.El≠s.El) () (fun k t hk=>by omega) ?_ ?_
 ·rintro i m hi hI
  unfold De
  refine Is.cond (fun _=>?_) (fun hb=>by simp at hb; omega)
  refine Is.bind (Is.ixn hi) fun t ht=>?_
  refine Is.cond (fun hb=>?_) (fun hb=>?_)
  ·exact Is.val ⟨rfl,t,List.mem_of_getElem? ht,by simpa using hb⟩
  ·refine Is.val ⟨(),by rw [Ed (by omega)],fun k u hk hu=>?_⟩
   by_cases e:k=i
   ·subst e; rw [ht] at hu; cases hu; simpa using hb
   ·exact hI k u (by omega) hu
 ·rintro m hI
  unfold De
  refine Is.cond (fun hb=>by simp at hb) (fun _=>Is.val ?_)
  intro t ht
  obtain ⟨k,hk⟩:=List.getElem?_of_mem ht
  exact hI k t (List.getElem?_eq_some_iff.1 hk).1 hk
theorem Jjn (l:Jd) (way:List Jb) (hl:l.Joints.length≤1048576) (h:way.length≤1048576):Is (Ic l way) fun b=>b=true↔Zy l way:=by
 unfold Ic
 refine Is.bind (φ:=fun b=>b=true↔(way.length=0∨64<way.length)) ?_ fun b hb=>?_
 ·refine Is.cond (fun hb=>Is.val ?_) (fun hb=>Is.val ?_)
  ·have:((way.length:Nat):Int)=0:=of_decide_eq_true hb
   simp only [true_iff]; omega
  ·have:¬ ((way.length:Nat):Int)=0:=of_decide_eq_false hb
   rw [decide_eq_true_iff]; omega
 refine Is.cond (fun hb'=>Is.val ?_) (fun hb'=>?_)
 ·have:=hb.1 hb'
  simp only [Bool.false_eq_true,Zy,false_iff]
  omega
 ·have hlen:¬ (way.length=0∨64<way.length):=fun e=>by rw [hb.2 e] at hb'; cases hb'
  simp only [Bo]
  refine Is.bind (Is.eq rfl) fun r hr=>?_
  rw [show r=l from hr]
  refine Is.onInl (θ:=fun o=>match o with|.inl _=>∀ i,i<way.length→Ms l way i|.inr b=>b=false∧∃ i,i<way.length∧¬ Ms l way i) ?_ ?_ ?_
  ·refine Is.loop (mk:=fun (i:Nat) (_:Unit)=>(i:Int)) way.length (fun i _=>∀ j,j<i→Ms l way j) () (fun j hj=>by omega) ?_ ?_
   ·rintro i m hi hI
    unfold Ia
    refine Is.cond (fun _=>?_) (fun hb=>by simp at hb; omega)
    refine Is.onInl (θ:=fun o=>match o with|.inl _=>Ms l way i|.inr x=>x=.inr (.inr false)∧¬ Ms l way i) ?_ ?_ ?_
    ·refine Is.bind (Is.ixn hi) fun s hs=>?_
     rw [Sa]
     refine Is.bind (Is.eq rfl) fun r hr=>?_
     subst hr
     have bad:∀ {q:Prop},(Ms l way i→q)→¬ q→¬ Ms l way i:=fun h1 h2 h3=>h2 (h1 h3)
     refine Is.cond (fun hb=>Is.val ⟨rfl, ?_⟩) (fun hb=>?_)
     ·rintro ⟨s',h1,h2,_⟩
      rw [hs] at h1; cases h1
      rw [h2] at hb; cases hb
     ·have hpos:(Mv l s).2=true:=by simpa using hb
      rw [Jwk (Nat.le_of_lt hi)]
      refine Is.bind (Is.eq rfl) fun L hL=>?_
      subst hL
      refine Is.onInl (Js7 s (way.take i) (by simp; omega)) ?_ ?_
      ·rintro v hv
       have hd:∀ k t,k<i→way[k]? = some t→t.El≠s.El:=fun k t hk ht=>hv t (List.mem_of_getElem? (i:=k) (by rw [List.getElem?_take,if_pos hk]; exact ht))
       refine Is.cond (fun h0=>Is.val ?_) (fun h0=>?_)
       ·have:i=0:=by
         have:(i:Int)=0:=by simpa using h0
         omega
        exact ⟨s,hs,hpos,hd,fun p hp=>by omega⟩
       ·have hi0:i≠0:=by
         have:¬ (i:Int)=0:=by simpa using h0
         omega
        have e:w64 ((i:Int) - 1)=((i - 1:Nat):Int):=by rw [Vy (by omega) (by omega)]; omega
        rw [e]
        refine Is.bind (Is.ixn (by omega)) fun p hp=>?_
        rw [Pf hl]
        refine Is.bind (Is.eq rfl) fun r hr=>?_
        subst hr
        refine Is.cond (fun hb=>Is.val ⟨rfl, ?_⟩) (fun hb=>Is.val ⟨s,hs,hpos,hd,fun p' _ hp'=>?_⟩)
        ·rintro ⟨s',h1,_,_,h4⟩
         rw [hs] at h1; cases h1
         rw [h4 p (by omega) hp] at hb
         simp at hb
        ·rw [hp] at hp'; cases hp'
         simp at hb
         obtain ⟨⟨h5,h6⟩,h7⟩:=hb
         cases hq:Qc l ⟨p.El,p.Out⟩ with
         | mk e z =>
          cases e
          rw [hq] at h5 h6 h7
          simp_all
      ·rintro x ⟨rfl,t,ht,he⟩
       refine ⟨rfl, ?_⟩
       rintro ⟨s',h1,_,h3,_⟩
       rw [hs] at h1; cases h1
       obtain ⟨k,hk⟩:=List.getElem?_of_mem ht
       rw [List.getElem?_take] at hk
       split at hk
       ·rename_i hki; exact h3 k t hki hk he
       ·cases hk
    ·rintro v hv
     refine Is.val ⟨(),by rw [Ed (by omega)],fun j hj=>?_⟩
     by_cases e:j=i
     ·subst e; exact hv
     ·exact hI j (by omega)
    ·rintro x ⟨rfl,hv⟩
     exact ⟨rfl,i,hi,hv⟩
   ·rintro m hI
    unfold Ia
    refine Is.cond (fun hb=>by simp at hb) (fun _=>Is.val ?_)
    exact hI
  ·rintro v hv
   refine Is.val ?_
   simp only [true_iff,Zy]
   exact ⟨by omega,by omega,hv⟩
  ·rintro b ⟨rfl,i,hi,hn⟩
   simp only [Bool.false_eq_true,false_iff,Zy]
   exact fun e=>hn (e.2.2 i hi)
end PM
/-
 PLAIN, WALK D: the reference's check of a layout comes to a value; if it is 0, the ends of all joints exist.
-/
namespace PM
open Go Go.RowKit
theorem Jh7 (a0:Int):Fq a0=some (Tc a0):=by
 unfold Fq Tc
 simp [Bool.cond_eq_ite]
 (repeat' split) <;> simp_all
def exS (l:Jd) (e:Jg):Bool :=
 Qr l e.El&&decide (0≤e.Side)&&(match l.Elements[e.El.toNat]? with|some x=>decide (e.Side<Tc x.Kind)|none=>false)
theorem Tt (l:Jd) (e:Jg):Yo l e=some (exS l e):=by
 unfold Yo exS
 have h1:((bif decide (0≤e.El) then (some (decide (e.El<((l.Elements.length:Nat):Int)))) else some false):Option Bool)=some (Qr l e.El):=by
  unfold Qr; cases decide (0≤e.El) <;> simp
 rw [h1]
 simp only [Option.bind_some]
 cases h:Qr l e.El with
 | false=>rfl
 | true =>
  obtain ⟨x,h2,h3⟩:=Ur h
  cases decide (0≤e.Side) with
  | false=>rfl
  | true=>simp [h2,h3,Jh7]
theorem Vn {α:Type} {L:List α} {i:Nat} {x:α} (h:L[i]? = some x):L.take (i+1)=L.take i++[x]:=by rw [List.take_add_one,h]; rfl
/-! ### Names -/
theorem Jje {l:Jd} (h:Sm l):Is (Fu l) fun r=>r.x0=l.Sections∧r.x1=l.Elements.map (·.Name)∧r.x2=l.Signals.map (·.Name):=by
 unfold Fu
 have h1:=h.sec; have h2:=h.el; have h3:=h.sg
 refine Is.bind (Is.app (by simp only [List.length_nil,Kn,Enc.b]; omega)) fun x1 hx1=>?_
 refine Is.onInl (θ:=fun o=>o=.inl (l.Elements.map (·.Name))) ?_ ?_ (fun b hb=>by cases hb)
 ·refine Is.loop (mk:=fun (i:Nat) (m:List ByteArray)=>((i:Int),m)) l.Elements.length (fun i m=>m=(l.Elements.take i).map (·.Name)) [] rfl ?_ ?_
  ·rintro i m hi rfl
   unfold Gi
   refine Is.cond (fun _=>?_) (fun hb=>by simp at hb; omega)
   refine Is.bind (Is.ixn hi) fun x hx=>?_
   refine Is.bind (Is.app ?_) fun M hM=>?_
   ·simp only [List.length_map,List.length_take,List.length_cons,List.length_nil,Kn,Enc.b]; omega
   ·subst hM
    exact Is.val ⟨_,by rw [Ed (by omega)],by rw [List.take_add_one,hx]; simp⟩
  ·rintro m rfl
   unfold Gi
   exact Is.cond (fun hb=>by simp at hb) (fun _=>Is.val (by rw [List.take_length]))
 ·rintro v hv
  cases hv
  refine Is.onInl (θ:=fun o=>o=.inl (l.Signals.map (·.Name))) ?_ ?_ (fun b hb=>by cases hb)
  ·refine Is.loop (mk:=fun (i:Nat) (m:List ByteArray)=>((i:Int),m)) l.Signals.length (fun i m=>m=(l.Signals.take i).map (·.Name)) [] rfl ?_ ?_
   ·rintro i m hi rfl
    unfold Ge
    refine Is.cond (fun _=>?_) (fun hb=>by simp at hb; omega)
    refine Is.bind (Is.ixn hi) fun x hx=>?_
    refine Is.bind (Is.app ?_) fun M hM=>?_
    ·simp only [List.length_map,List.length_take,List.length_cons,List.length_nil,Kn,Enc.b]; omega
    ·subst hM
     exact Is.val ⟨_,by rw [Ed (by omega)],by rw [List.take_add_one,hx]; simp⟩
   ·rintro m rfl
    unfold Ge
    exact Is.cond (fun hb=>by simp at hb) (fun _=>Is.val (by rw [List.take_length]))
  ·rintro v hv
   cases hv
   exact Is.val ⟨by rw [hx1,List.nil_append],rfl,rfl⟩
/-! ### Elements -/
def Vk (L:List Jx):List Jg:=L.flatMap fun j=>[j.A,j.B]
theorem Jfn (L:List Jx) (j:Jx):Vk (L++[j])=Vk L++[j.A,j.B]:=by simp [Vk]
/-- The ends of all joints exist, and no end twice. -/
def Jp5 (l:Jd):Prop:=(∀ j∈l.Joints,exS l j.A=true∧exS l j.B=true)∧(Vk l.Joints).Nodup
theorem Jlw {l:Jd} {e:Jg} (h:exS l e=true):Qr l e.El=true:=by
 simp only [exS,Bool.and_eq_true] at h; exact h.1.1
theorem Jtb {l:Jd} (hJ:Jp5 l) {e f:Jg} (h:Qc l e=(f,true)):exS l f=true:=by
 unfold Qc at h
 split at h
 ·rename_i j hj
  have hm:=hJ.1 j (List.mem_of_find?_eq_some hj)
  cases hA:Ka j.A e <;> rw [hA] at h <;> simp at h <;> subst h
  ·exact hm.1
  ·exact hm.2
 ·simp at h
end PM
/-
 PLAIN, WALK E: the chapter's examples.
-/
namespace PM
open Go Go.RowKit
end PM
/-
 THE PLAIN LAWS OF CHAPTER 9: WalkSteps, WalkParts, WalkGoesOn.
-/
namespace PM
open Go Go.RowKit
theorem Jph (k i o:Int) (h:o∈Pq k i):(Ph k i o).2=true:=by
 rcases Jqr k with rfl|rfl|rfl|⟨h1,h2,h3,h4,h5,h6⟩ <;> rcases Tm i with rfl|rfl|rfl|rfl|⟨g0,g1,g2,g3,g4,g5,g6,g7⟩ <;> simp [Pq, *] at h <;>
  first|(subst h; simp [Ph,Kj])|(rcases h with rfl|rfl <;> simp [Ph,Kj])
theorem Jff {l:Jd} {a:Jg} {s:Jb} (h:s∈Vc l a):s.El=a.El∧s.In=a.Side∧(Mv l s).2=true:=by
 unfold Vc at h
 cases hc:Qr l a.El with
 | false=>rw [hc] at h; simp at h
 | true =>
  rw [hc] at h
  simp only [cond_true] at h
  split at h
  ·rename_i x hx
   obtain ⟨o,ho,rfl⟩:=List.mem_map.1 h
   refine ⟨rfl,rfl, ?_⟩
   simp [Mv,hc,hx,Jph _ _ _ ho]
  ·cases h
/-- A way and one step more. -/
theorem Jon {l:Jd} {way:List Jb} (h:Zy l way) (h64:way.length<64) {p s:Jb} (hp:way[way.length - 1]? = some p) {a:Jg} (ha:Qc l ⟨p.El,p.Out⟩=(a,true)) (hs:s∈Vc l a) :
  Zy l (way++[s])↔∀ t∈way,t.El≠a.El:=by
 obtain ⟨b1,b2,b3⟩:=Jff hs
 have hlen:=h.1
 constructor
 ·rintro ⟨_,_,h3⟩ t ht
  obtain ⟨u,g1,_,g3,_⟩:=h3 way.length (by simp)
  have:u=s:=by simpa using g1.symm
  subst this
  obtain ⟨k,hk⟩:=List.getElem?_of_mem ht
  have hkl:=(List.getElem?_eq_some_iff.1 hk).1
  have:=g3 k t hkl (by rw [List.getElem?_append_left hkl]; exact hk)
  rwa [b1] at this
 ·intro hn
  refine ⟨by simp,by simp; omega,fun i hi=>?_⟩
  by_cases e:i<way.length
  ·obtain ⟨u,g1,g2,g3,g4⟩:=h.2.2 i e
   refine ⟨u,by rw [List.getElem?_append_left e]; exact g1,g2,fun k t hk ht=>g3 k t hk (by rwa [List.getElem?_append_left (by omega)] at ht),fun q hq hu=>g4 q hq (by rwa [List.getElem?_append_left (by omega)] at hu)⟩
  ·have:i=way.length:=by simp at hi; omega
   subst this
   refine ⟨s,by simp,b3,fun k t hk ht=>?_,fun q hq hu=>?_⟩
   ·rw [List.getElem?_append_left hk] at ht
    rw [b1]; exact hn t (List.mem_of_getElem? ht)
   ·rw [List.getElem?_append_left (by omega),hp] at hu
    cases hu
    rw [ha]
    cases a
    simp only at b1 b2
    rw [b1,b2]
end PM
/-
 PLAIN, WALK H: reverses, sections, lists without repetitions, settings.
-/
namespace PM
open Go Go.RowKit
theorem Sf {α:Type} {p:List α→Prop} (h0:p []) (h1:∀ l x,p l→p (l++[x])) (l:List α):p l:=by
 have key:∀ m:List α,p m.reverse:=by
  intro m
  induction m with
  | nil=>exact h0
  | cons x m ih=>rw [List.reverse_cons]; exact h1 _ _ ih
 have:=key l.reverse
 rwa [List.reverse_reverse] at this
/-! ### Lists without repetitions of neighbours -/
section
variable {α:Type} [DecidableEq α]
def Ta (acc:List α) (x:α):List α:=if acc.getLast? = some x then acc else acc++[x]
def ddS (l:List α):List α:=l.foldl Ta []
theorem Ri (l:List α) (x:α):ddS (l++[x])=Ta (ddS l) x:=by simp [ddS,List.foldl_append]
theorem Jc5 (l:List α):(ddS l).getLast? = l.getLast?:=by
 induction l using Sf with
 | h0=>rfl
 | h1 l x ih =>
  rw [Ri,Ta]
  split
  ·rename_i h; rw [h]; simp
  ·simp
theorem Jui (l:List α):(ddS l).length≤l.length:=by
 induction l using Sf with
 | h0=>simp [ddS]
 | h1 l x ih =>
  rw [Ri,Ta]
  split
  ·simp; omega
  ·simp; omega
theorem Jut (l:List α) (x:α):x∈ddS l↔x∈l:=by
 induction l using Sf with
 | h0=>simp [ddS]
 | h1 l y ih =>
  rw [Ri,Ta]
  split
  ·rename_i h
   rw [ih,List.mem_append,List.mem_singleton]
   constructor
   ·exact .inl
   ·rintro (h1|rfl)
    ·exact h1
    ·rw [Jc5] at h
     exact List.mem_of_getLast? h
  ·simp [ih]
/-- Of a list that ascends, one that ascends strictly. -/
theorem Jop {lt:α→α→Bool} (tr:∀ x y z,lt x y=true→lt y z=true→lt x z=true) (tot:∀ x y,lt y x=false→x=y∨lt x y=true) (l:List α) (h:l.Pairwise fun x y=>lt y x=false):(ddS l).Pairwise fun x y=>lt x y=true:=by
 induction l using Sf with
 | h0=>simp [ddS]
 | h1 l y ih =>
  rw [List.pairwise_append] at h
  obtain ⟨h1,_,h2⟩:=h
  have ih':=ih h1
  rw [Ri,Ta]
  split
  ·exact ih'
  ·rename_i hne
   rw [List.pairwise_append]
   refine ⟨ih',by simp,fun x hx z hz=>?_⟩
   simp only [List.mem_singleton] at hz
   subst hz
   -- the last element of what is kept
   obtain ⟨m,hm⟩:∃ m,(ddS l).getLast? = some m:=by
    cases hd:ddS l with
    | nil=>rw [hd] at hx; cases hx
    | cons a r=>exact ⟨_,List.getLast?_eq_some_getLast (List.cons_ne_nil _ _)⟩
   have hml:m∈l:=by rw [Jc5] at hm; exact List.mem_of_getLast? hm
   have hmz:lt m z=true:=by
    rcases tot m z (h2 m hml z (by simp)) with e|e
    ·subst e; exact absurd hm hne
    ·exact e
   by_cases hxm:x=m
   ·subst hxm; exact hmz
   ·have hsplit:∃ a,ddS l=a++[m]:=by
     refine ⟨(ddS l).dropLast, ?_⟩
     have hne':ddS l≠[]:=fun e=>by rw [e] at hx; cases hx
     have:=List.dropLast_concat_getLast hne'
     rw [List.getLast?_eq_some_getLast hne'] at hm
     cases hm
     exact this.symm
    obtain ⟨a,ha⟩:=hsplit
    rw [ha] at hx ih'
    rw [List.pairwise_append] at ih'
    rcases List.mem_append.1 hx with hx|hx
    ·exact tr x m z (ih'.2.2 x hx m (by simp)) hmz
    ·exact absurd (by simpa using hx) hxm
/-- Two lists that ascend strictly and have the same elements are one. -/
theorem Jb1 {lt:α→α→Bool} (ir:∀ x,lt x x=false) (tr:∀ x y z,lt x y=true→lt y z=true→lt x z=true):∀ (a b:List α),a.Pairwise (fun x y=>lt x y=true)→b.Pairwise (fun x y=>lt x y=true)→(∀ x,x∈a↔x∈b)→a=b
 | [],[],_,_,_=>rfl
 | [],y::b,_,_,h=>absurd ((h y).2 (by simp)) (by simp)
 | x::a,[],_,_,h=>absurd ((h x).1 (by simp)) (by simp)
 | x::a,y::b,ha,hb,h=>by
  rw [List.pairwise_cons] at ha hb
  have hxy:x=y:=by
   have h1:=(h x).1 (by simp)
   have h2:=(h y).2 (by simp)
   rcases List.mem_cons.1 h1 with e|h1
   ·exact e
   ·rcases List.mem_cons.1 h2 with e|h2
    ·exact e.symm
    ·have:=tr _ _ _ (hb.1 x h1) (ha.1 y h2)
     rw [ir] at this; cases this
  subst hxy
  have hnx:∀ {l:List α},(∀ z∈l,lt x z=true)→x∉l:=fun hl hm=>by
   have:=hl x hm
   rw [ir] at this; cases this
  rw [Jb1 ir tr a b ha.2 hb.2 fun z=>?_]
  by_cases hz:z=x
  ·subst hz; exact ⟨fun q=>absurd q (hnx ha.1),fun q=>absurd q (hnx hb.1)⟩
  ·have:=h z
   simpa [hz] using this
end
/-! ### Reverses -/
end PM
/-
 PLAIN, WALK I: the reference's ways, lengths and sections; both sections.
-/
namespace PM
open Go Go.RowKit
theorem Jb9 (l:Jd) (s:Jb):Ez l s=some (Mv l s):=by
 unfold Ez Mv
 rw [Fz]
 simp only [Option.bind_some]
 cases h:Qr l s.El with
 | false=>rfl
 | true =>
  obtain ⟨x,h1,h2⟩:=Ur h
  simp [h1,h2,Xe]
theorem Jjf (way:List Jb) (h:way.length≤1048576) {i:Nat} {s:Jb} (hs:way[i]? = some s):Is (Kl (Cf way i) 0) fun o=>match o with
  | .inl _=>∀ k t,k<i→way[k]? = some t→t.El≠s.El
  | .inr x=>x=.inr (.inr false)∧∃ k t,k<i∧way[k]? = some t∧t.El=s.El:=by
 have hi:=Qg hs
 refine Is.loop (mk:=fun (i:Nat) (_:Unit)=>(i:Int)) i (fun j _=>∀ k t,k<j→way[k]? = some t→t.El≠s.El) () (fun k t hk=>by omega) ?_ ?_
 ·rintro j m hj hI
  unfold Cf
  refine Is.cond (fun _=>?_) (fun hb=>by simp at hb; omega)
  refine Is.bind (Is.ixn (Nat.lt_trans hj hi)) fun t ht=>Is.bind (Is.ixn hi) fun u hu=>?_
  rw [hs] at hu; cases hu
  refine Is.cond (fun hb=>?_) (fun hb=>?_)
  ·exact Is.val ⟨rfl,j,t,hj,ht,by simpa using hb⟩
  ·refine Is.val ⟨(),by rw [Ed (by omega)],fun k u hk hu=>?_⟩
   by_cases e:k=j
   ·subst e; rw [ht] at hu; cases hu; simpa using hb
   ·exact hI k u (by omega) hu
 ·rintro m hI
  unfold Cf
  exact Is.cond (fun hb=>by simp at hb) (fun _=>Is.val hI)
theorem Jik (l:Jd) (way:List Jb) (hl:l.Joints.length≤1048576) (h:way.length≤1048576):Is (Ft l way) fun b=>b=true↔Zy l way:=by
 unfold Ft
 refine Is.bind (φ:=fun b=>b=true↔(way.length=0∨64<way.length)) ?_ fun b hb=>?_
 ·refine Is.cond (fun hb=>Is.val ?_) (fun hb=>Is.val ?_)
  ·have:((way.length:Nat):Int)=0:=of_decide_eq_true hb
   simp only [true_iff]; omega
  ·have:¬ ((way.length:Nat):Int)=0:=of_decide_eq_false hb
   rw [decide_eq_true_iff]; omega
 refine Is.cond (fun hb'=>Is.val ?_) (fun hb'=>?_)
 ·have:=hb.1 hb'
  simp only [Bool.false_eq_true,Zy,false_iff]
  omega
 ·have hlen:¬ (way.length=0∨64<way.length):=fun e=>by rw [hb.2 e] at hb'; cases hb'
  refine Is.onInl (θ:=fun o=>match o with|.inl _=>∀ i,i<way.length→Ms l way i|.inr b=>b=false∧∃ i,i<way.length∧¬ Ms l way i) ?_ ?_ ?_
  ·refine Is.loop (mk:=fun (i:Nat) (_:Unit)=>(i:Int)) way.length (fun i _=>∀ j,j<i→Ms l way j) () (fun j hj=>by omega) ?_ ?_
   ·rintro i m hi hI
    unfold Gb
    refine Is.cond (fun _=>?_) (fun hb=>by simp at hb; omega)
    refine Is.bind (Is.ixn hi) fun s hs=>?_
    rw [Jb9]
    refine Is.bind (Is.eq rfl) fun r hr=>?_
    subst hr
    refine Is.cond (fun hb=>Is.val ⟨rfl,i,hi, ?_⟩) (fun hb=>?_)
    ·rintro ⟨s',h1,h2,_⟩
     rw [hs] at h1; cases h1
     rw [h2] at hb; cases hb
    have hpos:(Mv l s).2=true:=by simpa using hb
    refine Is.onInl (θ:=fun o=>match o with|.inl _=>(∀ p,0<i→way[i - 1]? = some p→Qc l ⟨p.El,p.Out⟩=(⟨s.El,s.In⟩,true))|.inr x=>x=.inr (.inr false)∧¬ Ms l way i) ?_ ?_ ?_
    ·refine Is.cond (fun h0=>?_) (fun h0=>Is.val fun p hp=>?_)
     ·have hi0:0<i:=by
       have:(0:Int)<i:=of_decide_eq_true h0
       omega
      have e:w64 ((i:Int) - 1)=((i - 1:Nat):Int):=by rw [Vy (by omega) (by omega)]; omega
      rw [e]
      refine Is.bind (Is.ixn (by omega)) fun p hp=>?_
      rw [Re hl]
      refine Is.bind (Is.eq rfl) fun r hr=>?_
      subst hr
      refine Is.bind (φ:=fun b=>b=true↔((Qc l ⟨p.El,p.Out⟩).2=false∨(Qc l ⟨p.El,p.Out⟩).1.El≠s.El)) ?_ fun b1 hb1=>?_
      ·refine Is.cond (fun hc=>Is.val ?_) (fun hc=>?_)
       ·simp at hc; simp [hc]
       ·simp at hc
        refine Is.bind (Is.ixn hi) fun u hu=>Is.val ?_
        rw [hs] at hu; cases hu
        simp [hc]
      refine Is.bind (φ:=fun b=>b=true↔((Qc l ⟨p.El,p.Out⟩).2=false∨(Qc l ⟨p.El,p.Out⟩).1.El≠s.El∨(Qc l ⟨p.El,p.Out⟩).1.Side≠s.In)) ?_ fun b2 hb2=>?_
      ·refine Is.cond (fun hc=>Is.val ?_) (fun hc=>?_)
       ·rcases hb1.1 hc with e|e <;> simp [e]
       ·have hc':¬ ((Qc l ⟨p.El,p.Out⟩).2=false∨(Qc l ⟨p.El,p.Out⟩).1.El≠s.El):=fun e=>by rw [hb1.2 e] at hc; cases hc
        refine Is.bind (Is.ixn hi) fun u hu=>Is.val ?_
        rw [hs] at hu; cases hu
        have h1:¬ (Qc l ⟨p.El,p.Out⟩).2=false:=fun e=>hc' (.inl e)
        have h2:¬ (Qc l ⟨p.El,p.Out⟩).1.El≠s.El:=fun e=>hc' (.inr e)
        constructor
        ·intro e
         exact .inr (.inr (by simpa using e))
        ·rintro (e|e|e)
         ·exact absurd e h1
         ·exact absurd e h2
         ·simpa using e
      refine Is.cond (fun hc=>Is.val ⟨rfl, ?_⟩) (fun hc=>Is.val fun p' _ hp'=>?_)
      ·rintro ⟨s',h1,_,_,h4⟩
       rw [hs] at h1; cases h1
       have:=h4 p hi0 hp
       rcases hb2.1 hc with e|e|e
       ·rw [this] at e; cases e
       ·rw [this] at e; exact e rfl
       ·rw [this] at e; exact e rfl
      ·rw [hp] at hp'; cases hp'
       have hc':¬ ((Qc l ⟨p.El,p.Out⟩).2=false∨(Qc l ⟨p.El,p.Out⟩).1.El≠s.El∨(Qc l ⟨p.El,p.Out⟩).1.Side≠s.In):=fun e=>by rw [hb2.2 e] at hc; cases hc
       cases hq:Qc l ⟨p.El,p.Out⟩ with
       | mk e z =>
        cases e
        rw [hq] at hc'
        simp_all
     ·have:¬ (0:Int)<i:=of_decide_eq_false h0
      omega
    ·intro v hv
     refine Is.onInl (Jjf way h hs) ?_ ?_
     ·intro w hw
      refine Is.val ⟨(),by rw [Ed (by omega)],fun j hj=>?_⟩
      by_cases e:j=i
      ·subst e; exact ⟨s,hs,hpos,hw,hv⟩
      ·exact hI j (by omega)
     ·rintro x ⟨rfl,k,t,hk,ht,he⟩
      refine ⟨rfl,i,hi, ?_⟩
      rintro ⟨s',h1,_,h3,_⟩
      rw [hs] at h1; cases h1
      exact h3 k t hk ht he
    ·rintro x ⟨rfl,hn⟩
     exact ⟨rfl,i,hi,hn⟩
   ·rintro m hI
    unfold Gb
    exact Is.cond (fun hb=>by simp at hb) (fun _=>Is.val hI)
  ·rintro v hv
   refine Is.val ?_
   simp only [true_iff,Zy]
   exact ⟨by omega,by omega,hv⟩
  ·rintro b ⟨rfl,i,hi,hn⟩
   simp only [Bool.false_eq_true,false_iff,Zy]
   exact fun e=>hn (e.2.2 i hi)
theorem Jgq (l:Jd) (way:List Jb) (h:way.length≤1048576):Dw l way=some (w64 (Ov l way)):=by
 unfold Dw
 have:Is (Kl (Bj l way) (0,0)) fun o=>o=.inl (w64 (Ov l way)):=by
  refine Is.loop (mk:=fun (i:Nat) (x:Int)=>(x,(i:Int))) way.length (fun i x=>x=w64 (Ov l (way.take i))) 0 rfl ?_ ?_
  ·rintro i x hi rfl
   unfold Bj
   refine Is.cond (fun _=>?_) (fun hb=>by simp at hb; omega)
   refine Is.onInl (θ:=fun o=>o=.inl (w64 (Ov l (way.take (i+1))))) ?_ ?_ ?_
   ·refine Is.bind (Is.ixn hi) fun s hs=>?_
    have e:Ov l (way.take (i+1))=Ov l (way.take i)+lenOf l s:=by
     rw [Vn hs,Ja1]; simp [Ov]
    rw [Fz]
    refine Is.bind (Is.eq rfl) fun b hb=>?_
    refine Is.cond (fun hb'=>?_) (fun hb'=>?_)
    ·subst hb
     refine Is.bind (Is.ixn hi) fun s' hs'=>?_
     rw [hs] at hs'; cases hs'
     obtain ⟨x,h1,h2⟩:=Ur hb'
     refine Is.bind (Is.eq h1) fun y hy=>?_
     subst hy
     refine Is.val ?_
     rw [e,Jqv]
     simp [lenOf,hb',h2]
    ·subst hb
     refine Is.val ?_
     rw [e]
     simp [lenOf,hb']
   ·rintro v hv
    cases hv
    exact Is.val ⟨_,by rw [Ed (by omega)],rfl⟩
   ·intro b hb; cases hb
  ·rintro x rfl
   unfold Bj
   refine Is.cond (fun hb=>by simp at hb) (fun _=>Is.val ?_)
   rw [List.take_length]
 obtain ⟨o,h1,rfl⟩:=this
 simp [h1,onInl,Du]
/-! ### Sections -/
def Tw (L:List Int):List Int:=L.foldl (fun acc x=>if x∈acc then acc else acc++[x]) []
theorem Jci (L:List Int) (x:Int):Tw (L++[x])=if x∈Tw L then Tw L else Tw L++[x]:=by
 unfold Tw
 rw [List.foldl_append]
 rfl
theorem Jq5 (L:List Int) (y:Int):y∈Tw L↔y∈L:=by
 induction L using Sf with
 | h0=>simp [Tw]
 | h1 l x ih =>
  rw [Jci]
  split
  ·rename_i h
   rw [ih,List.mem_append,List.mem_singleton]
   exact ⟨.inl,fun q=>q.elim id fun e=>by subst e; exact ih.1 h⟩
  ·simp [ih]
theorem Jrj (L:List Int):(Tw L).length≤L.length:=by
 induction L using Sf with
 | h0=>simp [Tw]
 | h1 l x ih =>
  rw [Jci]
  split <;> simp <;> omega
def Xd (l:Jd) (s:Jb):Option Int:=bif Qr l s.El then (l.Elements[s.El.toNat]?).map (·.Section) else none
def Zo (l:Jd) (way:List Jb):List Int:=Tw (way.filterMap (Xd l))
theorem Jex (l:Jd) (way:List Jb) (s:Jb):Zo l (way++[s])=match Xd l s with|some x=>if x∈Zo l way then Zo l way else Zo l way++[x]|none=>Zo l way:=by
 unfold Zo
 rw [List.filterMap_append,List.filterMap_cons,List.filterMap_nil]
 cases Xd l s with
 | none=>simp
 | some x=>rw [Jci]
theorem Jdl (l:Jd) (way:List Jb):(Zo l way).length≤way.length:=Nat.le_trans (Jrj _) (List.length_filterMap_le _ _)
theorem Jli (L:List Int) (x:Int) (h:L.length≤1048576):Mi L x=some (decide (x∈L)):=by
 unfold Mi
 rw [Ja9 (fun y=>decide (y=x)) (fun _=>.inr true) (.inl ()) L (by omega)]
 ·cases hf:L.find? (fun y=>decide (y=x)) with
  | none =>
   have:¬ x∈L:=fun hm=>by
    have:=List.find?_eq_none.1 hf x hm
    simp at this
   simp [this,onInl,Du]
  | some y =>
   have h1:=List.find?_some hf
   have h2:=List.mem_of_find?_eq_some hf
   simp at h1; subst h1
   simp [h2,onInl,Du]
 ·intro i y hy
  have hi:=Qg hy
  simp only [Lu,Ng hy,show decide ((i:Int)<((L.length:Nat):Int))=true by simp; omega,cond_true,Option.bind_some]
 ·simp [Lu]
theorem Pp (l:Jd) (way:List Jb) (h:way.length≤1000000):Vz l way=some (Zo l way):=by
 unfold Vz
 have:Is (Kl (Yw l way) (0,[])) fun o=>o=.inl (Zo l way):=by
  refine Is.loop (mk:=fun (i:Nat) (m:List Int)=>((i:Int),m)) way.length (fun i m=>m=Zo l (way.take i)) [] rfl ?_ ?_
  ·rintro i m hi rfl
   unfold Yw
   refine Is.cond (fun _=>?_) (fun hb=>by simp at hb; omega)
   have hlen:(Zo l (way.take i)).length≤i:=Nat.le_trans (Jdl _ _) (by simp; omega)
   refine Is.onInl (θ:=fun o=>o=.inl (Zo l (way.take (i+1)))) ?_ ?_ (fun b hb=>by cases hb)
   ·refine Is.bind (Is.ixn hi) fun s hs=>?_
    rw [Fz,Vn hs,Jex]
    refine Is.bind (Is.eq rfl) fun b hb=>?_
    cases hE:Qr l s.El with
    | false =>
     subst hb
     rw [hE]
     exact Is.val (by simp [Xd,hE])
    | true =>
     subst hb
     rw [hE]
     obtain ⟨x,h1,h2⟩:=Ur hE
     have hso:Xd l s=some x.Section:=by simp [Xd,hE,h2]
     rw [hso]
     refine Is.bind (φ:=fun b=>b = !decide (x.Section∈Zo l (way.take i))) (Is.cond (fun _=>?_) (fun e=>by cases e)) fun b hb=>?_
     ·refine Is.bind (Is.ixn hi) fun s' hs'=>?_
      rw [hs] at hs'; cases hs'
      rw [h1]
      refine Is.bind (Is.eq rfl) fun y hy=>?_
      subst hy
      rw [Jli _ _ (by omega)]
      exact Is.val rfl
     ·subst hb
      by_cases hm:x.Section∈Zo l (way.take i)
      ·simp only [hm,decide_true,Bool.not_true,cond_false,if_pos]
       exact Is.val rfl
      ·simp only [hm,decide_false,Bool.not_false,cond_true,if_false]
       refine Is.bind (Is.ixn hi) fun s' hs'=>?_
       rw [hs] at hs'; cases hs'
       rw [h1]
       refine Is.bind (Is.eq rfl) fun y hy=>?_
       subst hy
       refine Is.bind (Is.app ?_) fun M hM=>?_
       ·simp only [List.length_cons,List.length_nil,Kn,Enc.b]; omega
       ·subst hM; exact Is.val rfl
   ·rintro v hv
    cases hv
    exact Is.val ⟨_,by rw [Ed (by omega)],rfl⟩
  ·rintro m rfl
   unfold Yw
   exact Is.cond (fun hb=>by simp at hb) (fun _=>Is.val (by rw [List.take_length]))
 obtain ⟨o,h1,rfl⟩:=this
 simp [h1,onInl,Du]
theorem Jbe {κ ν:Type} [Key κ] (m:List (κ×ν)) (k j:κ) (v:ν):Vo (My k v m) j=if j=k then some v else Vo m j:=by
 induction m with
 | nil =>
  unfold My Vo
  by_cases e:j=k <;> simp [e]
 | cons x r ih =>
  unfold My
  split
  ·rename_i hk
   subst hk
   unfold Vo
   by_cases e:j=x.1 <;> simp [e]
  ·rename_i hk
   unfold Vo at ih ⊢
   rw [List.find?_cons,List.find?_cons]
   by_cases e:j=x.1
   ·simp [e]
    intro q; exact absurd q.symm hk
   ·simp only [e,decide_false]
    exact ih
theorem Iy (l:Jd) (way:List Jb) (h:way.length≤1000000):Vp l way=some (Zo l way):=by
 unfold Vp
 have:Is (Kl (Zv l way) (0,[],[])) fun o=>o=.inl (Zo l way):=by
  refine Is.loop (mk:=fun (i:Nat) (m:List (Int×Bool)×List Int)=>((i:Int),m.1,m.2)) way.length (fun i m=>m.2=Zo l (way.take i)∧∀ x,(Vo m.1 x).getD false=decide (x∈m.2)) ([],[]) ⟨rfl,fun x=>by simp [Vo]⟩ ?_ ?_
  ·rintro i ⟨seen,m⟩ hi ⟨hm,hM⟩
   simp only at hm hM
   subst hm
   unfold Zv
   refine Is.cond (fun _=>?_) (fun hb=>by simp at hb; omega)
   have hlen:(Zo l (way.take i)).length≤i:=Nat.le_trans (Jdl _ _) (by simp; omega)
   refine Is.onInl (θ:=fun o=>match o with|.inl q=>q.1=Zo l (way.take (i+1))∧∀ x,(Vo q.2 x).getD false=decide (x∈q.1)|.inr _=>False) ?_ ?_ (fun b hb=>hb.elim)
   ·refine Is.bind (Is.ixn hi) fun s hs=>?_
    rw [Hv,Vn hs,Jex]
    refine Is.bind (Is.eq rfl) fun b hb=>?_
    subst hb
    cases hE:Qr l s.El with
    | false =>
     refine Is.val ⟨by simp [Xd,hE],hM⟩
    | true =>
     obtain ⟨x,h1,h2⟩:=Ur hE
     have hso:Xd l s=some x.Section:=by simp [Xd,hE,h2]
     rw [hso,h1]
     show Is (bif !(Vo seen x.Section).getD false then _ else _) _
     simp only [hM]
     by_cases hm:x.Section∈Zo l (way.take i)
     ·simp only [hm,decide_true,Bool.not_true,cond_false,if_pos]
      exact Is.val ⟨rfl,hM⟩
     ·simp only [hm,decide_false,Bool.not_false,cond_true,if_false]
      refine Is.bind (Is.app ?_) fun M hM'=>?_
      ·simp only [List.length_cons,List.length_nil,Kn,Enc.b]; omega
      ·subst hM'
       refine Is.val ⟨rfl,fun z=>?_⟩
       rw [Jbe]
       by_cases e:z=x.Section
       ·simp [e]
       ·rw [if_neg e,hM]; simp [e]
   ·rintro ⟨a,b⟩ ⟨hv,hM'⟩
    exact Is.val ⟨(b,a),by rw [Ed (by omega)],hv,hM'⟩
  ·rintro ⟨seen,m⟩ ⟨hm,-⟩
   simp only at hm
   subst hm
   unfold Zv
   exact Is.cond (fun hb=>by simp at hb) (fun _=>Is.val (by rw [List.take_length]))
 obtain ⟨o,h1,rfl⟩:=this
 simp [h1,onInl,Du]
end PM
/-
 PLAIN, WALK J: settings.
-/
namespace PM
open Go Go.RowKit
theorem Jca (x y:Je):Ua x y=true↔x=y:=by
 cases x; cases y; simp [Ua]
instance : DecidableEq Je:=fun x y=>decidable_of_iff _ (Jca x y)
theorem Sz (x y:Je):Ua x y=decide (x=y):=by
 rw [Bool.eq_iff_iff,Jca,decide_eq_true_iff]
theorem Ii (o:Nat) {n i:Nat} (h:i<n):Rl o n (i:Int)=some (o+i):=by
 unfold Rl
 rw [if_pos (by omega)]; rfl
theorem Jbd {α:Type} {L:List α} {n j:Nat} (h:L.length=n):Pw L n j=L[j]?:=by
 unfold Pw
 rw [if_pos h]
/-! ### Compact -/
theorem Jno {α:Type} [DecidableEq α] {L:List α} {j:Nat} {x:α} (h0:0<j) (hx:L[j]? = some x) (hp:L[j - 1]? = some x):ddS (L.take (j+1))=ddS (L.take j):=by
 rw [Vn hx,Ri,Ta,Jc5]
 have:(L.take j).getLast? = some x:=by
  have e:L.take j=L.take (j - 1)++[x]:=by
   have:=Vn hp
   rwa [show j - 1+1=j by omega] at this
  rw [e]; simp
 rw [this,if_pos rfl]
theorem Jj5 {α:Type} [DecidableEq α] {L:List α} {j:Nat} {x y:α} (h0:0<j) (hx:L[j]? = some x) (hp:L[j - 1]? = some y) (hn:x≠y):ddS (L.take (j+1))=ddS (L.take j)++[x]:=by
 rw [Vn hx,Ri,Ta,Jc5]
 have:(L.take j).getLast? = some y:=by
  have e:L.take j=L.take (j - 1)++[y]:=by
   have:=Vn hp
   rwa [show j - 1+1=j by omega] at this
  rw [e]; simp
 rw [this,if_neg (fun e=>hn (by cases e; rfl))]
theorem Jpi (L:List Je) (h:L.length≤1000000) {i:Nat} (hi0:0<i) (hi:i<L.length) (hd:ddS (L.take (i+1))=L.take i) :
  Is (Kl (Qw L (i,L.length)) ((i:Int),1,L)) fun o=>match o with
   | .inl r=>∃ k:Nat,r.2=(k:Int)∧k≤L.length∧r.1.length=L.length∧r.1.take k=ddS L
   | .inr _=>False:=by
 refine Is.loop (S:=Int×Int×List Je) (mk:=fun (j:Nat) (m:Nat×List Je)=>(((m.1:Nat):Int),((j+1:Nat):Int),m.2)) (L.length - i - 1)
  (fun j m=>m.2.length=L.length∧m.1≤i+j∧m.2.take m.1=ddS (L.take (i+j+1))∧∀ t,m.1≤t→m.2[t]? = L[t]?) (i,L) ⟨rfl,Nat.le_refl _,hd.symm,fun _ _=>rfl⟩ ?_ ?_
 ·rintro j ⟨k,c⟩ hj ⟨hc,hk,ht,hs⟩
  simp only at hc hk ht hs
  unfold Qw
  refine Is.cond (fun _=>?_) (fun hb=>by simp at hb; omega)
  have hL:((L:List Je).map cellsOf).length=L.length:=List.length_map _
  have e1:w64 (((j+1:Nat):Int) - 1)=((j:Nat):Int):=by rw [Vy (by omega) (by omega)]; omega
  simp only [hL,e1,Nat.zero_add,Ii i (show j+1<L.length - i by omega),Ii i (show j<L.length - i by omega),Option.bind_some,Jbd hc]
  have hx:c[i+(j+1)]? = L[i+(j+1)]?:=hs _ (by omega)
  have hy:c[i+j]? = L[i+j]?:=hs _ (by omega)
  obtain ⟨x,ex⟩:∃ x,L[i+(j+1)]? = some x:=⟨_,List.getElem?_eq_getElem (by omega)⟩
  obtain ⟨y,ey⟩:∃ y,L[i+j]? = some y:=⟨_,List.getElem?_eq_getElem (by omega)⟩
  rw [hx,ex,hy,ey]
  simp only [Option.bind_some,Sz]
  by_cases exy:x=y
  ·simp only [exy,decide_true,Bool.not_true,cond_false]
   refine Is.val ⟨(k,c), ?_,hc,by simp only; omega, ?_,hs⟩
   ·rw [Ed (by omega)]
   ·simp only
    rw [ht]
    subst exy
    exact (Jno (by omega) ex (by rw [show i+(j+1) - 1=i+j by omega]; exact ey)).symm
  ·simp only [exy,decide_false,Bool.not_false,cond_true]
   have hkn:k<L.length:=by omega
   rw [show Rl 0 L.length ((k:Nat):Int)=some (0+k) from Ii 0 hkn]
   have hck:c[k]? = some (c[k]'(by omega)):=List.getElem?_eq_getElem (by omega)
   simp only [Option.bind_some,Nat.zero_add,hck]
   refine Is.val ⟨(k+1,c.set k x), ?_,by simpa using hc,by simp only; omega, ?_,fun t ht'=>?_⟩
   ·rw [Ed (by omega),Ed (by omega)]
   ·simp only
    rw [show i+(j+1)+1=(i+(j+1))+1 from rfl,Jj5 (by omega) ex (by rw [show i+(j+1) - 1=i+j by omega]; exact ey) exy,show i+(j+1)=i+j+1 by omega,← ht]
    rw [Vn (x:=x) (by rw [List.getElem?_set_self (by omega)]),List.take_set_of_le (Nat.le_refl _)]
   ·rw [List.getElem?_set_ne (by simp only at ht'; omega)]
    exact hs t (by simp only at ht'; omega)
 ·rintro ⟨k,c⟩ ⟨hc,hk,ht,hs⟩
  simp only at hc hk ht hs
  unfold Qw
  refine Is.cond (fun hb=>by simp at hb; omega) (fun _=>Is.val ?_)
  refine ⟨k,rfl,by omega,hc, ?_⟩
  rw [show i+(L.length - i - 1)+1=L.length by omega,List.take_length] at ht
  exact ht
theorem Jpg (L:List Je) (h:L.length≤1000000):Is (Qm L) fun r=>r.1.take r.2=ddS L:=by
 unfold Qm
 have hL:((L:List Je).map cellsOf).length=L.length:=List.length_map _
 rw [hL]
 refine Is.cond (fun hb=>Is.val ?_) (fun hb=>?_)
 ·have hl:L.length<2:=by have:=of_decide_eq_true hb; omega
  simp only [List.take_length]
  match L,hl with
  | [],_=>rfl
  | [x],_=>rfl
 have hl:2≤L.length:=by have:=of_decide_eq_false hb; omega
 refine Is.onInl (θ:=fun o=>match o with|.inl _=>ddS L=L|.inr r=>r.1.take r.2=ddS L) ?_ ?_ (fun b hb=>hb)
 ·refine Is.loop (S:=Int) (mk:=fun (i:Nat) (_:Unit)=>((i+1:Nat):Int)) (L.length - 1) (fun i _=>ddS (L.take (i+1))=L.take (i+1)) () ?_ ?_ ?_
  ·match L,hl with
   | x::r,_=>simp [ddS,Ta]
  ·rintro i m hi hI
   unfold Uo
   rw [hL]
   refine Is.cond (fun _=>?_) (fun hb=>by simp at hb; omega)
   have e1:w64 (((i+1:Nat):Int) - 1)=((i:Nat):Int):=by rw [Vy (by omega) (by omega)]; omega
   simp only [e1,Ii 0 (show i+1<L.length by omega),Ii 0 (show i<L.length by omega),Option.bind_some,Nat.zero_add,Jbd (rfl:L.length=L.length)]
   obtain ⟨x,ex⟩:∃ x,L[i+1]? = some x:=⟨_,List.getElem?_eq_getElem (by omega)⟩
   obtain ⟨y,ey⟩:∃ y,L[i]? = some y:=⟨_,List.getElem?_eq_getElem (by omega)⟩
   rw [ex,ey]
   simp only [Option.bind_some,Sz]
   by_cases exy:x=y
   ·subst exy
    simp only [decide_true,cond_true]
    have es:Jjq L.length (some ((i+1:Nat):Int)) none=some (i+1,L.length):=by
     simp only [Jjq,Jbq]
     rw [if_pos (by omega)]
     simp only [Int.toNat_natCast]
     rw [if_pos (by omega)]
    rw [es]
    simp only [Option.bind_some]
    have hd:ddS (L.take (i+1+1))=L.take (i+1):=by rw [Jno (by omega) ex (by simpa using ey),hI]
    refine Is.onInl (Jpi L h (by omega) (by omega) hd) ?_ (fun b hb=>hb.elim)
    rintro ⟨c,kk⟩ ⟨k,hkk,hk,hc,ht⟩
    simp only at hkk hc ht
    subst hkk
    have es:Jjq L.length (some ((k:Nat):Int)) none=some (k,L.length):=by
     simp only [Jjq,Jbq]
     rw [if_pos (by omega)]
     simp only [Int.toNat_natCast]
     rw [if_pos (by omega)]
    simp only [es,Option.bind_some]
    have ec:Jni c L.length k (L.length - k) ((Je.mk 0 0):Je)=some (c.take k++List.replicate (L.length - k) ((Je.mk 0 0):Je)++c.drop (k+(L.length - k))):=by
     unfold Jni
     rw [if_pos ⟨hc,by omega⟩]
    have eh:Jnb L.length ((k:Nat):Int)=some k:=by
     unfold Jnb
     rw [if_pos (by omega)]; rfl
    simp only [ec,eh,Option.bind_some]
    refine Is.val ?_
    show List.take k _=ddS L
    rw [← ht,List.append_assoc,List.take_append_of_le_length (by simp; omega),List.take_take,Nat.min_self]
   ·simp only [exy,decide_false,cond_false]
    refine Is.val ⟨(),by rw [Ed (by omega)], ?_⟩
    rw [Jj5 (by omega) ex (by simpa using ey) exy,hI,Vn ex]
  ·rintro m hI
   unfold Uo
   rw [hL]
   refine Is.cond (fun hb=>by simp at hb; omega) (fun _=>Is.val ?_)
   rw [show L.length - 1+1=L.length by omega,List.take_length] at hI
   exact hI
 ·rintro v hv
  refine Is.val ?_
  show List.take L.length L=ddS L
  rw [List.take_length]; exact hv.symm
/-! ### Both lists of settings -/
def ltS (x y:Je):Bool:=decide (x.El<y.El∨(x.El=y.El∧x.Pos<y.Pos))
theorem Jcs (x y:Je):ltS x y=decide (x.El<y.El∨(x.El=y.El∧x.Pos<y.Pos)):=rfl
theorem Juy (x:Je):ltS x x=false:=by rw [Jcs]; simp
theorem Jpn (x y z:Je) (h1:ltS x y=true) (h2:ltS y z=true):ltS x z=true:=by
 rw [Jcs,decide_eq_true_iff] at *; omega
theorem Jp7 (x y:Je) (h:ltS y x=false):x=y∨ltS x y=true:=by
 rw [Jcs] at h ⊢
 simp only [decide_eq_false_iff_not,decide_eq_true_eq] at h ⊢
 obtain ⟨a,b⟩:=x
 obtain ⟨c,d⟩:=y
 simp only [Je.mk.injEq] at h ⊢
 omega
def Asc (l:List Je):Prop:=l.Pairwise fun x y=>ltS x y=true
theorem Asc.one {a b:List Je} (ha:Asc a) (hb:Asc b) (h:∀ x,x∈a↔x∈b):a=b:=Jb1 Juy Jpn a b ha hb h
def Jmm (l:Jd) (s:Jb):Option Je:=bif (Mv l s).2 && !decide ((Mv l s).1=0) then some ⟨s.El,(Mv l s).1⟩ else none
def Jbw (l:Jd) (way:List Jb):List Je:=way.filterMap (Jmm l)
def Jjy (l:Jd) (way:List Jb):List Je:=ddS ((Jbw l way).mergeSort fun x y => !ltS y x)
theorem Jkm (l:Jd) (way:List Jb) (s:Jb):Jbw l (way++[s])=Jbw l way++(Jmm l s).toList:=by
 unfold Jbw
 rw [List.filterMap_append,List.filterMap_cons,List.filterMap_nil]
 cases Jmm l s <;> rfl
theorem Jhe (l:Jd) (way:List Jb):(Jbw l way).length≤way.length:=List.length_filterMap_le _ _
theorem Jtj (l:Jd) (way:List Jb) (x:Je):x∈Jjy l way↔x∈Jbw l way:=by
 rw [Jjy,Jut,(List.mergeSort_perm _ _).mem_iff]
theorem Js9 (l:Jd) (way:List Jb):(Jjy l way).length≤way.length:=by
 refine Nat.le_trans (Jui _) ?_
 rw [(List.mergeSort_perm _ _).length_eq]
 exact Jhe l way
theorem Jtx (l:Jd) (way:List Jb):Asc (Jjy l way):=by
 refine Jop Jpn Jp7 _ ?_
 have:=List.pairwise_mergeSort (le:=fun x y => !ltS y x) (fun a b c h1 h2=>?_) (fun a b=>?_) (Jbw l way)
 ·exact this.imp fun h=>by simpa using h
 ·simp only [Jcs,Bool.not_eq_true',decide_eq_false_iff_not] at *; omega
 ·cases h:ltS b a with
  | false=>rfl
  | true =>
   have:ltS a b=false:=by rw [Jcs,decide_eq_true_iff] at h; rw [Jcs,decide_eq_false_iff_not]; omega
   simp [this]
theorem Jss {l:Jd} {s:Jb} {x:Jq} (hx:l.Elements[s.El.toNat]? = some x) (h:(Mv l s).2=true):(x.Kind=2↔(Mv l s).1≠0):=by
 unfold Mv at h ⊢
 cases hE:Qr l s.El with
 | false=>rw [hE] at h; cases h
 | true =>
  rw [hE,hx] at h
  rw [hx]
  simp only [cond_true] at h ⊢
  unfold Ph at h ⊢
  cases hf:Kj.find? (fun y=>decide (y.kind_=x.Kind)&&decide (y.in_=s.In)&&decide (y.out_=s.Out)) with
  | none=>rw [hf] at h; cases h
  | some y =>
   have h1:=List.find?_some hf
   simp only [Bool.and_eq_true,decide_eq_true_eq] at h1
   have h2:∀ z∈Kj,(z.kind_=2↔z.need_≠0):=by decide
   have:=h2 y (List.mem_of_find?_eq_some hf)
   rw [h1.1.1] at this
   exact this
theorem Jmj {l:Jd} {s:Jb} (h:(Mv l s).2=true):Qr l s.El=true:=by
 cases hE:Qr l s.El with
 | true=>rfl
 | false=>unfold Mv at h; rw [hE] at h; cases h
theorem Rn (l:Jd) (way:List Jb) (h:way.length≤1000000):Zm l way=some (Jjy l way):=by
 unfold Zm
 have:Is (Kl (Zw l way) (0,[])) fun o=>o=.inl (Jbw l way):=by
  refine Is.loop (mk:=fun (i:Nat) (m:List Je)=>((i:Int),m)) way.length (fun i m=>m=Jbw l (way.take i)) [] rfl ?_ ?_
  ·rintro i m hi rfl
   unfold Zw
   refine Is.cond (fun _=>?_) (fun hb=>by simp at hb; omega)
   have hlen:(Jbw l (way.take i)).length≤i:=Nat.le_trans (Jhe _ _) (by simp; omega)
   refine Is.onInl (θ:=fun o=>o=.inl (Jbw l (way.take (i+1)))) ?_ ?_ (fun b hb=>by cases hb)
   ·refine Is.bind (Is.ixn hi) fun s hs=>?_
    rw [Sa,Vn hs,Jkm]
    refine Is.bind (Is.eq rfl) fun p hp=>?_
    subst hp
    refine Is.bind (φ:=fun b=>b=((Mv l s).2 && !decide ((Mv l s).1=0))) ?_ fun b hb=>?_
    ·refine Is.cond (fun hc=>?_) (fun hc=>Is.val (by rw [hc]; rfl))
     obtain ⟨x,h1,h2⟩:=Ur (Jmj hc)
     rw [h1]
     refine Is.bind (Is.eq rfl) fun y hy=>?_
     subst hy
     refine Is.val ?_
     rw [hc,Bool.true_and,Bool.eq_iff_iff,decide_eq_true_iff,Jss h2 hc]
     simp
    ·subst hb
     unfold Jmm
     cases (Mv l s).2 && !decide ((Mv l s).1=0) with
     | false=>exact Is.val (by simp)
     | true =>
      refine Is.bind (Is.app ?_) fun M hM=>?_
      ·simp only [List.length_cons,List.length_nil,Kn,Enc.b]; omega
      ·subst hM; exact Is.val rfl
   ·rintro v hv
    cases hv
    exact Is.val ⟨_,by rw [Ed (by omega)],rfl⟩
  ·rintro m rfl
   unfold Zw
   exact Is.cond (fun hb=>by simp at hb) (fun _=>Is.val (by rw [List.take_length]))
 obtain ⟨o,h1,rfl⟩:=this
 have hlen:=Jhe l way
 obtain ⟨r,h2,h3⟩:=Jpg ((Jbw l way).mergeSort fun x y => !ltS y x) (by rw [(List.mergeSort_perm _ _).length_eq]; omega)
 rw [h1]
 simp only [onInl,Option.bind_some,Du]
 unfold Qq
 rw [show Go.Proofs.ltOf Qi=ltS from funext fun x=>funext fun y=>Wg x y]
 rw [Option.bind_some]
 show ((Qm ((Jbw l way).mergeSort fun x y => !ltS y x)).bind fun r50=>some (r50.1.take r50.2))=_
 rw [h2,Option.bind_some,h3]; rfl
theorem Jga (L:List Je) (x:Je) (hL:Asc L) (h:L.length≤1000000):Is (Ea L x) fun M=>Asc M∧(∀ y,y∈M↔y∈L∨y=x)∧M.length≤L.length+1:=by
 unfold Ea
 refine Is.onInl (θ:=fun o=>match o with|.inl r=>∃ i:Nat,r.2=(i:Int)∧i≤L.length∧r.1=L.take i∧(∀ y∈L.take i,ltS y x=true)∧(∀ y,L[i]? = some y→ltS y x=false)|.inr _=>False) ?_ ?_ (fun b hb=>hb.elim)
 ·refine Is.loop (mk:=fun (i:Nat) (m:List Je)=>((i:Int),m)) L.length (fun i m=>m=L.take i∧∀ y∈L.take i,ltS y x=true) [] ⟨rfl,fun y hy=>by simp at hy⟩ ?_ ?_
  ·rintro i m hi ⟨rfl,hI⟩
   unfold Es
   obtain ⟨y,hy⟩:∃ y,L[i]? = some y:=⟨_,List.getElem?_eq_getElem hi⟩
   have e0:decide ((i:Int)<((L.length:Nat):Int))=true:=decide_eq_true (by omega)
   simp only [Ng hy,e0,cond_true,Option.bind_some]
   refine Is.bind (φ:=fun b=>b=ltS y x) ?_ fun b hb=>?_
   ·rw [Jcs]
    by_cases h1:y.El<x.El
    ·simp only [h1,decide_true,cond_true,true_or]; exact Is.val rfl
    ·by_cases h2:y.El=x.El
     ·simp only [h2,Int.lt_irrefl,decide_false,decide_true,cond_true,cond_false,Option.bind_some,false_or,true_and]; exact Is.val rfl
     ·simp only [h1,h2,decide_false,cond_false,Option.bind_some,false_or,false_and]; exact Is.val rfl
   ·subst hb
    refine Is.cond (fun hc=>?_) (fun hc=>Is.val ⟨i,rfl,by omega,rfl,hI,fun z hz=>?_⟩)
    ·refine Is.bind (Is.app ?_) fun M hM=>?_
     ·simp only [List.length_take,List.length_cons,List.length_nil,Kn,Enc.b]; omega
     ·subst hM
      refine Is.val ⟨_,by rw [Ed (by omega)],by rw [Vn hy],fun z hz=>?_⟩
      rw [Vn hy] at hz
      rcases List.mem_append.1 hz with hz|hz
      ·exact hI z hz
      ·simp at hz; subst hz; exact hc
    ·rw [hy] at hz; cases hz; exact hc
  ·rintro m ⟨rfl,hI⟩
   unfold Es
   have e0:decide (((L.length:Nat):Int)<((L.length:Nat):Int))=false:=decide_eq_false (by omega)
   simp only [e0,cond_false,Option.bind_some]
   exact Is.val ⟨L.length,rfl,Nat.le_refl _,rfl,hI,fun y hy=>by simp at hy⟩
 ·rintro ⟨m,k⟩ ⟨i,hk,hi,hm,hI,hn⟩
  simp only at hk hm
  subst hk hm
  refine Is.onInl (θ:=fun o=>∃ M,o=.inl M∧Asc (M++L.drop i)∧(∀ y,y∈M++L.drop i↔y∈L∨y=x)∧M.length≤i+1) ?_ ?_ (fun b hb=>by obtain ⟨M,hM,_⟩:=hb; cases hM)
  ·have hsplit:L.take i++L.drop i=L:=List.take_append_drop i L
   have hmem:∀ y,y∈L.take i++L.drop i↔y∈L:=fun y=>by rw [hsplit]
   have hL':=hL
   unfold Asc at hL'
   rw [← hsplit,List.pairwise_append] at hL'
   refine Is.bind (φ:=fun b=>b=decide (L[i]? ≠ some x)) ?_ fun b hb=>?_
   ·refine Is.cond (fun hc=>Is.val ?_) (fun hc=>?_)
    ·have:i=L.length:=by have:=of_decide_eq_true hc; omega
     subst this; simp
    ·have:i<L.length:=by have:=of_decide_eq_false hc; omega
     refine Is.bind (Is.ixn this) fun y hy=>Is.val ?_
     rw [hy,Sz]
     by_cases e:y=x <;> simp [e]
   subst hb
   by_cases e:L[i]? = some x
   ·simp only [e,ne_eq,not_true,decide_false,cond_false]
    refine Is.val ⟨L.take i,rfl,by rw [hsplit]; exact hL,fun y=>?_,by simp; omega⟩
    rw [hmem]
    exact ⟨.inl,fun q=>q.elim id fun q=>by subst q; exact List.mem_of_getElem? e⟩
   ·simp only [e,ne_eq,not_false_eq_true,decide_true,cond_true]
    refine Is.bind (Is.app ?_) fun M hM=>?_
    ·simp only [List.length_take,List.length_cons,List.length_nil,Kn,Enc.b]; omega
    ·subst hM
     refine Is.val ⟨_,rfl, ?_,fun y=>?_,by simp; omega⟩
     ·have hxd:∀ y∈L.drop i,ltS x y=true:=by
       intro y hy
       cases hd:L[i]? with
       | none =>
        have:L.length≤i:=by simpa using hd
        rw [List.drop_eq_nil_of_le this] at hy; cases hy
       | some z =>
        have hi':=Qg hd
        have ez:L[i]=z:=by rw [List.getElem?_eq_getElem hi'] at hd; exact Option.some.inj hd
        have hxz:ltS x z=true:=by
         rcases Jp7 x z (hn z hd) with q|q
         ·exact absurd (q▸hd) e
         ·exact q
        rw [List.drop_eq_getElem_cons hi',ez] at hy
        have hp:=hL'.2.1
        rw [List.drop_eq_getElem_cons hi',ez,List.pairwise_cons] at hp
        rcases List.mem_cons.1 hy with q|q
        ·subst q; exact hxz
        ·exact Jpn x z y hxz (hp.1 y q)
      unfold Asc
      rw [List.append_assoc,List.pairwise_append]
      refine ⟨hL'.1, ?_,fun a ha b hb=>?_⟩
      ·rw [List.singleton_append,List.pairwise_cons]
       exact ⟨hxd,hL'.2.1⟩
      ·rcases List.mem_append.1 hb with q|q
       ·simp at q; subst q; exact hI a ha
       ·exact hL'.2.2 a ha b q
     ·rw [← hmem]
      simp only [List.mem_append,List.mem_singleton]
      constructor
      ·rintro ((q|q)|q)
       ·exact .inl (.inl q)
       ·exact .inr q
       ·exact .inl (.inr q)
      ·rintro ((q|q)|q)
       ·exact .inl (.inl q)
       ·exact .inr q
       ·exact .inl (.inr q)
  ·rintro M ⟨M',hM',hA,hm,hl⟩
   cases hM'
   rw [Jwl hi]
   refine Is.bind (Is.eq rfl) fun y hy=>?_
   subst hy
   refine Is.bind (Is.app ?_) fun M' hM'=>?_
   ·simp only [List.length_drop,Kn,Enc.b]; omega
   ·subst hM'
    refine Is.val ⟨hA,hm, ?_⟩
    simp only [List.length_append,List.length_drop]; omega
theorem Jdh (l:Jd) (way:List Jb) (h:way.length≤1000000):Bh l way=some (Jjy l way):=by
 unfold Bh
 have:Is (Kl (Yp l way) (0,[])) fun o=>o=.inl (Jjy l way):=by
  refine Is.loop (mk:=fun (i:Nat) (m:List Je)=>((i:Int),m)) way.length (fun i m=>Asc m∧(∀ x,x∈m↔x∈Jbw l (way.take i))∧m.length≤i) [] ⟨List.Pairwise.nil,fun x=>by simp [Jbw],Nat.le_refl _⟩ ?_ ?_
  ·rintro i m hi ⟨hA,hm,hl⟩
   unfold Yp
   refine Is.cond (fun _=>?_) (fun hb=>by simp at hb; omega)
   refine Is.onInl (θ:=fun o=>match o with|.inl m=>Asc m∧(∀ x,x∈m↔x∈Jbw l (way.take (i+1)))∧m.length≤i+1|.inr _=>False) ?_ ?_ (fun b hb=>hb.elim)
   ·refine Is.bind (Is.ixn hi) fun s hs=>?_
    rw [Jb9,Vn hs,Jkm]
    refine Is.bind (Is.eq rfl) fun p hp=>?_
    subst hp
    unfold Jmm
    cases (Mv l s).2 && !decide ((Mv l s).1=0) with
    | false=>exact Is.val ⟨hA,fun x=>by simpa using hm x,by omega⟩
    | true =>
     refine Is.bind (Is.ixn hi) fun s' hs'=>?_
     rw [hs] at hs'; cases hs'
     refine Is.bind (Jga m _ hA (by omega)) fun M hM=>Is.val ⟨hM.1,fun x=>?_,by have:=hM.2.2; omega⟩
     rw [hM.2.1,hm]; simp
   ·rintro v hv
    exact Is.val ⟨v,by rw [Ed (by omega)],hv⟩
  ·rintro m ⟨hA,hm,-⟩
   unfold Yp
   refine Is.cond (fun hb=>by simp at hb) (fun _=>Is.val ?_)
   rw [List.take_length] at hm
   rw [Asc.one hA (Jtx l way) fun x=>by rw [hm,Jtj]]
 obtain ⟨o,h1,rfl⟩:=this
 simp [h1,onInl,Du]
end PM
/-
 PLAIN, WALK K: the laws of chapter 9 about measures, reverses and settings.
-/
namespace PM
open Go Go.RowKit
/-! ### Joints are symmetric -/
/-! ### The reverse of a way -/
theorem Jnr (l:Jd) (way:List Jb) (x:Int):x∈Zo l way↔∃ s∈way,Xd l s=some x:=by
 rw [Zo,Jq5,List.mem_filterMap]
/-! ### The laws -/
end PM
/-
 PLAIN, LAYOUT A: names, parts, ends: what the program's and the reference's tests come to.
-/
namespace PM
open Go Go.RowKit
/-! ### Names -/
def okB (i:Nat) (c:Nat):Prop:=(97≤c∧c≤122)∨(((48≤c∧c≤57)∨c=95)∧i≠0)
def Fh (s:ByteArray):Prop:=1≤s.size∧s.size≤12∧∀ i (h:i<s.size),okB i (s[i]'h).toNat
theorem get!_eq {s:ByteArray} {i:Nat} (h:i<s.size):s.get! i=s[i]'h:=by
 cases s with
 | mk bs=>exact getElem!_pos bs i h
theorem Jpj {s:ByteArray} {i:Nat} (h:i<s.size) (hc:(s[i]'h).toNat<128):Utf8.decode s i=((s[i]'h).toNat,1):=by
 unfold Utf8.decode
 simp only [Nat.add_zero,get!_eq h]
 rw [if_pos hc]
theorem Jn1 {s:ByteArray} {i:Nat} (h:i<s.size) (hc:128≤(s[i]'h).toNat):128≤(Utf8.decode s i).1:=by
 unfold Utf8.decode
 simp only [Nat.add_zero,get!_eq h]
 rw [if_neg (by omega)]
 repeat' split
 all_goals first|assumption|(rename_i h1; simp only [Bool.and_eq_true,decide_eq_true_eq,ge_iff_le] at h1; have:=h1.1; omega)|(simp [Utf8.runeError])
theorem Jj2 (s:ByteArray) (h:s.size≤1048576):Is (Ih s) fun b=>b=true↔Fh s:=by
 unfold Ih
 by_cases h0:s=ByteArray.empty∨12<s.size
 ·have e:(decide (s=ByteArray.empty)||decide (12<((s.size:Nat):Int)))=true:=by
   rcases h0 with e|e
   ·simp [e]
   ·simp; right; omega
  rw [e]
  refine Is.val ?_
  simp only [Bool.false_eq_true,false_iff]
  rintro ⟨h1,h2,_⟩
  rcases h0 with e|e
  ·have e2:s.size=0:=by rw [e]; rfl
   omega
  ·omega
 ·have h1:s≠ByteArray.empty:=fun e=>h0 (.inl e)
  have h2:s.size≤12:=by
   have:¬ 12<s.size:=fun e=>h0 (.inr e)
   omega
  have hpos:0<s.size:=by
   cases s with
   | mk bs =>
    have:bs≠#[]:=fun e=>h1 (by rw [e]; rfl)
    exact Array.size_pos_iff.2 this
  have e:(decide (s=ByteArray.empty)||decide (12<((s.size:Nat):Int)))=false:=by
   simp [h1]; omega
  rw [e]
  refine Is.bind (φ:=fun b=>b=decide (((s[0]'hpos).toNat:Int)<97)) (Is.bind (Is.six hpos) fun x hx=>Is.val (by rw [hx])) fun b1 hb1=>?_
  refine Is.bind (φ:=fun b=>b=true↔¬ (97≤(s[0]'hpos).toNat∧(s[0]'hpos).toNat≤122)) ?_ fun b3 hb3=>?_
  ·subst hb1
   refine Is.cond (fun hc=>Is.val ?_) (fun hc=>Is.bind (Is.six hpos) fun x hx=>Is.val ?_)
   ·have:=of_decide_eq_true hc; simp only [true_iff]; omega
   ·have:=of_decide_eq_false hc; rw [hx,decide_eq_true_iff]; omega
  refine Is.cond (fun hc=>Is.val ?_) (fun hc=>?_)
  ·have:=hb3.1 hc
   simp only [Bool.false_eq_true,false_iff]
   rintro ⟨_,_,h3⟩
   rcases h3 0 hpos with h4|h4
   ·exact this h4
   ·exact h4.2 rfl
  ·have h97:97≤(s[0]'hpos).toNat∧(s[0]'hpos).toNat≤122:=by
    by_cases q:97≤(s[0]'hpos).toNat∧(s[0]'hpos).toNat≤122
    ·exact q
    ·rw [hb3.2 q] at hc; cases hc
   refine Is.onInl (θ:=fun o=>match o with|.inl _=>Fh s|.inr b=>b=false∧¬ Fh s) ?_ (fun _ hv=>Is.val ⟨fun _=>hv,fun _=>rfl⟩) (fun b hb=>?_)
   ·refine Is.loop (mk:=fun (i:Nat) (_:Unit)=>i) s.size (fun i _=>∀ k (hk:k<s.size),k<i→okB k (s[k]'hk).toNat) () (fun k hk hi=>by omega) ?_ ?_
    ·rintro i m hi hI
     unfold Ib
     rw [decide_eq_true hi,cond_true]
     by_cases hlow:(s[i]'hi).toNat<128
     ·rw [Jpj hi hlow]
      refine Is.cond (fun hb=>Is.val ⟨rfl, ?_⟩) (fun hb=>Is.val ⟨(),rfl,fun k hk hki=>?_⟩)
      ·rintro ⟨_,_,h3⟩
       have:=h3 i hi
       unfold okB at this
       simp at hb
       omega
      ·by_cases e:k=i
       ·subst e
        unfold okB
        by_cases e0:k=0
        ·subst e0; exact .inl h97
        ·simp at hb
         omega
       ·exact hI k hk (by omega)
     ·have hh:=Jn1 hi (by omega)
      refine Is.cond (fun hb=>Is.val ⟨rfl, ?_⟩) (fun hb=>?_)
      ·rintro ⟨_,_,h3⟩
       have:=h3 i hi
       unfold okB at this
       omega
      ·simp at hb
       omega
    ·rintro m hI
     unfold Ib
     rw [decide_eq_false (Nat.lt_irrefl _)]
     exact Is.val ⟨hpos,h2,fun i hi=>hI i hi hi⟩
   ·have hb:b=false∧¬ Fh s:=hb
    exact Iff.intro (fun e=>by rw [hb.1] at e; cases e) (fun e=>absurd e hb.2)
end PM
/-
 PLAIN, LAYOUT B: the conditions of a layout, and what the program's tests come to.
-/
namespace PM
open Go Go.RowKit
/-! ### The conditions -/
def Gj (l:Jd):Prop:=1≤l.Elements.length∧l.Elements.length≤32∧1≤l.Sections.length∧l.Sections.length≤24∧l.Signals.length≤20∧l.Balises.length≤24
def Gv (l:Jd):Prop:=Fh l.Name∧(∀ s∈l.Sections,Fh s)∧(∀ s∈l.Elements.map (·.Name),Fh s)∧(∀ s∈l.Signals.map (·.Name),Fh s)
def Jc3 (l:Jd):Prop:=l.Sections.Nodup∧(l.Elements.map (·.Name)).Nodup∧(l.Signals.map (·.Name)).Nodup
def Sj (l:Jd) (x:Jq):Prop :=
 (1≤x.Kind∧x.Kind≤3)∧(500≤x.Length∧x.Length≤1000000)∧(-50≤x.Grade∧x.Grade≤50)∧(100≤x.Speed∧x.Speed≤10000)∧(0≤x.Section∧x.Section<(l.Sections.length:Nat)) ∧
  (x.Kind=2→100≤x.Slow∧x.Slow≤x.Speed)∧(x.Kind≠2→x.Slow=0)
def Jt4 (l:Jd):Prop:=∀ s,s<l.Sections.length→∃ x∈l.Elements,x.Section=(s:Nat)
def Xt (l:Jd):Prop:=(∀ x∈l.Elements,Sj l x)∧Jt4 l
def Mt (l:Jd):Prop:=∀ j∈l.Joints,exS l j.A=true∧exS l j.B=true∧j.A≠j.B
def Jez (l:Jd):Prop:=∀ s∈l.Signals,exS l s.At=true∧0≤s.Overlap∧s.Overlap≤1000000
def Jet (l:Jd) (i:Int):Int:=bif Qr l i then ((l.Elements[i.toNat]?).map (·.Section)).getD (-1) else -1
def Ji2 (l:Jd):Prop:=∀ s∈l.Signals,(Qc l s.At).2=true∧Jet l (Qc l s.At).1.El≠Jet l s.At.El
def Jjc (l:Jd) (i:Int):Int:=((l.Elements[i.toNat]?).map (·.Length)).getD 0
def Jh9 (l:Jd):Prop:=∀ b∈l.Balises,1≤b.Id∧b.Id≤1073741824∧Qr l b.El=true∧0≤b.Offset∧b.Offset≤Jjc l b.El
open Classical in
noncomputable def chk (l:Jd):Int :=
 if ¬ Gj l then 2 else if ¬ Gv l then 3 else if ¬ Jc3 l then 8 else if ¬ Xt l then 1 else if ¬ Mt l then 1 else if ¬ (Vk l.Joints).Nodup then 8 else
 if ¬ Jez l then 1 else if ¬ (l.Signals.map (·.At)).Nodup then 8 else if ¬ Ji2 l then 14 else if ¬ Jh9 l then 1 else if ¬ (l.Balises.map (·.Id)).Nodup then 8 else 0
/-! ### Small parts -/
theorem Wt {b x y:Bool}:(bif b then some x else some y)=some (bif b then x else y):=by cases b <;> rfl
theorem Od (a b c:Int):Ky a b c=some (decide (b≤a∧a≤c)):=by simp [Ky]
theorem Jlr (l:Jd):Is (Yt l) fun b=>b=true↔Gj l:=by
 unfold Yt
 simp only [Od,Option.bind_some,Wt,Bool.cond_false_right]
 exact Is.val (by simp [Gj]; omega)
theorem Ji7 (s:ByteArray) (h:s.size≤1048576):Is (Ho s) fun b=>b=true↔Fh s:=by
 unfold Ho
 refine Is.onInl (θ:=fun o=>match o with|.inl _=>∀ k (hk:k<s.size),okB k (s[k]'hk).toNat|.inr b=>b=false∧¬ Fh s) ?_ (fun _ hv=>Is.val ?_) (fun b hb=>show b=true↔Fh s from ?_)
 ·refine Is.loop (mk:=fun (i:Nat) (_:Unit)=>(i:Int)) s.size (fun i _=>∀ k (hk:k<s.size),k<i→okB k (s[k]'hk).toNat) () (fun k hk hi=>by omega) ?_ ?_
  ·rintro i m hi hI
   unfold Hn
   refine Is.inb hi ?_
   obtain ⟨c,hc,rfl⟩:=Is.six hi
   simp only [hc,Option.bind_some,Wt,Bool.cond_false_right,Bool.cond_true_left]
   refine Is.ite (p:=¬ okB i (s[i]'hi).toNat) (by simp [okB]; omega) (fun hn=>Is.val ⟨rfl,fun hN=>hn (hN.2.2 i hi)⟩) (fun hn=>Is.val ⟨(),by rw [Ed (by omega)],fun k hk hki=>?_⟩)
   by_cases e:k=i
   ·subst e; exact Classical.not_not.1 hn
   ·exact hI k hk (by omega)
  ·rintro m hI
   unfold Hn
   exact Is.oub (Is.val fun k hk=>hI k hk hk)
 ·have hv:∀ k (hk:k<s.size),okB k (s[k]'hk).toNat:=hv
  simp only [Bool.and_eq_true,decide_eq_true_eq,Fh]
  constructor
  ·rintro ⟨h1,h2⟩; exact ⟨by omega,by omega,hv⟩
  ·rintro ⟨h1,h2,_⟩; exact ⟨by omega,by omega⟩
 ·have hb:b=false∧¬ Fh s:=hb
  rw [hb.1]
  exact ⟨fun e=>absurd e Bool.false_ne_true,fun e=>absurd e hb.2⟩
/-- All names of a list are names. -/
theorem Joe (L:List ByteArray) (hL:L.length≤1048576) (hs:∀ s∈L,s.size≤1048576) (K:Unit→Option (Int⊕(Unit⊕Int))) {ψ:Int⊕(Unit⊕Int)→Prop}
  (h1:(∀ s∈L,Fh s)→Is (K ()) ψ) (h2:¬ (∀ s∈L,Fh s)→ψ (.inr (.inr 3))):Is (onInl (Kl (Vt L) 0) K) ψ:=by
 refine Is.all (fun _ s=>Fh s) () (by omega) (fun i x hx hi _=>?_) ?_ (fun h=>h1 (Uf.1 h))
 ·unfold Vt
  refine Is.inb hi (Is.at hx (Is.bind (Jj2 x (hs x (List.mem_of_getElem? hx))) fun r hr=>?_))
  exact Is.ifn hr (fun hn=>Is.val (h2 fun e=>hn (e x (List.mem_of_getElem? hx)))) (fun hy=>Is.val ⟨rfl,hy⟩)
 ·simp [Vt]
/-- No name of a list twice. -/
theorem Joz (L:List ByteArray) (hL:L.length≤1048576) (K:Unit→Option (Int⊕(Unit⊕Int))) {ψ:Int⊕(Unit⊕Int)→Prop}
  (h1:L.Nodup→Is (K ()) ψ) (h2:¬ L.Nodup→ψ (.inr (.inr 8))):Is (onInl (Kl (Vs L) (0,([]:List (ByteArray×Bool)))) K) ψ:=by
 refine Is.fold (L:=L) (mk:=fun i m=>(i,m)) (fun i m=>(∀ k,(Vo m k).getD false=true↔k∈L.take i)∧(L.take i).Nodup) [] (by omega) ⟨fun k=>by simp [Jds],by simp⟩ (fun i x m hx hi hI=>?_) (fun m hI=>?_)
 ·unfold Vs
  refine Is.inb hi (Is.at hx ?_)
  refine Is.ite (hI.1 x) (fun hm=>Is.val (h2 fun hn=>?_)) (fun hm=>Is.val ⟨_,rfl, ?_, ?_⟩)
  ·obtain ⟨j,hj,e⟩:=List.mem_iff_getElem.1 hm
   rw [List.getElem_take] at e
   have hj2:j<i:=by rw [List.length_take] at hj; omega
   obtain ⟨h3,h4⟩:=List.getElem?_eq_some_iff.1 hx
   exact List.pairwise_iff_getElem.1 hn j i (by omega) h3 hj2 (e.trans h4.symm)
  ·rw [Fk hx]; exact Jkp hI.1 x
  ·rw [Fk hx,Jay]; exact ⟨hI.2,hm⟩
 ·unfold Vs
  refine Is.oub (Is.val (h1 ?_))
  have:=hI.2; rwa [List.take_length] at this
theorem Jjt {l:Jd} (h:Sm l):Is (Yc l) fun e=>(¬ Gv l∧e=3)∨(Gv l∧¬ Jc3 l∧e=8)∨(Gv l∧Jc3 l∧e=0):=by
 have g1:=h.sec; have g2:=h.el; have g3:=h.sg
 unfold Yc
 refine Is.bind (Is.mk (by simp only [Kn,Enc.b]; omega)) fun x1 hx1=>?_
 subst hx1
 refine Is.fold (L:=l.Elements) (mk:=fun i m=>(m,i)) (fun i m=>m=(l.Elements.take i).map (·.Name)) [] (by omega) rfl (fun i x m hx hi hI=>?_) (fun m hI=>?_)
 ·subst hI
  unfold Zc
  refine Is.inb hi (Is.at hx ?_)
  refine Is.bind (Is.app (by simp only [List.length_map,List.length_take,List.length_cons,List.length_nil,Kn,Enc.b]; omega)) fun M hM=>?_
  subst hM
  exact Is.val ⟨_,rfl,by rw [Fk hx]; simp⟩
 unfold Zc
 refine Is.oub (Is.val ?_)
 rw [List.take_length] at hI; subst hI
 refine Is.bind (Is.mk (by simp only [Kn,Enc.b]; omega)) fun x1 hx1=>?_
 subst hx1
 refine Is.fold (L:=l.Signals) (mk:=fun i m=>(m,i)) (fun i m=>m=(l.Signals.take i).map (·.Name)) [] (by omega) rfl (fun i x m hx hi hI=>?_) (fun m hI=>?_)
 ·subst hI
  unfold Yx
  refine Is.inb hi (Is.at hx ?_)
  refine Is.bind (Is.app (by simp only [List.length_map,List.length_take,List.length_cons,List.length_nil,Kn,Enc.b]; omega)) fun M hM=>?_
  subst hM
  exact Is.val ⟨_,rfl,by rw [Fk hx]; simp⟩
 unfold Yx
 refine Is.oub (Is.val ?_)
 rw [List.take_length] at hI; subst hI
 have hsz:∀ L∈[[l.Name],l.Sections,l.Elements.map (·.Name),l.Signals.map (·.Name)],L.length≤1048576∧∀ s∈L,s.size≤1048576:=by
  intro L hL
  simp only [List.mem_cons,List.not_mem_nil,or_false] at hL
  rcases hL with rfl|rfl|rfl|rfl
  ·exact ⟨by simp,fun s hs=>by simp at hs; rw [hs]; exact h.nm⟩
  ·exact ⟨g1,h.secn⟩
  ·refine ⟨by simpa using g2,fun s hs=>?_⟩
   obtain ⟨x,hx,rfl⟩:=List.mem_map.1 hs
   exact h.eln x hx
  ·refine ⟨by simpa using g3,fun s hs=>?_⟩
   obtain ⟨x,hx,rfl⟩:=List.mem_map.1 hs
   exact h.sgn x hx
 have hN:(∀ L∈[[l.Name],l.Sections,l.Elements.map (·.Name),l.Signals.map (·.Name)],∀ s∈L,Fh s)↔Gv l:=by
  simp only [List.mem_cons,List.not_mem_nil,or_false,forall_eq_or_imp,forall_eq,Gv]
 have hD:(∀ L∈[[l.Name],l.Sections,l.Elements.map (·.Name),l.Signals.map (·.Name)],L.Nodup)↔Jc3 l:=by
  simp only [List.mem_cons,List.not_mem_nil,or_false,forall_eq_or_imp,forall_eq,Jc3]
  simp
 refine Is.all (L:=[[l.Name],l.Sections,l.Elements.map (·.Name),l.Signals.map (·.Name)]) (fun _ L=>∀ s∈L,Fh s) () (by simp) (fun i x hx hi _=>?_) ?_ (fun hn=>?_)
 ·unfold Zb
  refine Is.inb hi (Is.at hx ?_)
  have hm:=List.mem_of_getElem? hx
  exact Joe x (hsz x hm).1 (hsz x hm).2 _ (fun hy=>Is.val ⟨rfl,hy⟩) (fun hn=>.inl ⟨fun e=>hn (hN.2 e x hm),rfl⟩)
 ·simp [Zb]
 have hn:Gv l:=hN.1 (Uf.1 hn)
 refine Is.all (L:=[[l.Name],l.Sections,l.Elements.map (·.Name),l.Signals.map (·.Name)]) (fun _ L=>L.Nodup) () (by simp) (fun i x hx hi _=>?_) ?_ (fun hd=>?_)
 ·unfold Yy
  refine Is.inb hi (Is.at hx ?_)
  have hm:=List.mem_of_getElem? hx
  exact Joz x (hsz x hm).1 _ (fun hy=>Is.val ⟨rfl,hy⟩) (fun hq=>.inr (.inl ⟨hn,fun e=>hq (hD.2 e x hm),rfl⟩))
 ·simp [Yy]
 exact Is.val (.inr (.inr ⟨hn,hD.1 (Uf.1 hd),rfl⟩))
end PM
/-
 PLAIN, LAYOUT C: elements, joints, signals, balises: the program's check returns the first error.
-/
namespace PM
open Go Go.RowKit
instance (priority:=1) endDec:DecidableEq Jg:=fun x y=>decidable_of_iff _ (Em x y)
theorem Jl6 (l:Jd) (x:Jq) (h:l.Sections.length≤1048576) :
  (Sj l x↔((((1≤x.Kind∧x.Kind≤3)∧(500≤x.Length∧x.Length≤1000000))∧(-50≤x.Grade∧x.Grade≤50))∧(100≤x.Speed∧x.Speed≤10000))∧(0≤x.Section∧x.Section≤w64 (((l.Sections.length:Nat):Int) - 1)) ∧
   ¬ ((x.Kind=2∧¬ (100≤x.Slow∧x.Slow≤x.Speed))∨(x.Kind≠2∧x.Slow≠0))):=by
 rw [Vy (by omega) (by omega)]
 unfold Sj
 by_cases h2:x.Kind=2 <;> simp [h2] <;> omega
theorem Jib {l:Jd} (h:Sm l):Is (Vf l) fun b=>b=true↔∀ x∈l.Elements,Sj l x:=by
 unfold Vf
 have g1:=h.sec; have g2:=h.el
 refine Is.all (L:=l.Elements) (fun _ x=>Sj l x) () (by omega) (fun i x hx hi _=>?_) ?_ (fun hn=>?_)
 ·unfold Yf
  have hm:=List.mem_of_getElem? hx
  refine Is.inb hi (Is.at hx ?_)
  simp only [Od,Option.bind_some,Wt,Bool.cond_true_left,Bool.cond_false_right]
  have e:=Jl6 l x g1
  refine Is.ite (p:=¬ ((((1≤x.Kind∧x.Kind≤3)∧(500≤x.Length∧x.Length≤1000000))∧(-50≤x.Grade∧x.Grade≤50))∧(100≤x.Speed∧x.Speed≤10000))∨¬ (0≤x.Section∧x.Section≤w64 (((l.Sections.length:Nat):Int) - 1)))
   (by simp only [Bool.or_eq_true,Bool.not_eq_true',decide_eq_false_iff_not]; omega) (fun hb=>Is.val ?_) (fun hb=>?_)
  ·refine iff_of_false Bool.false_ne_true fun q=>?_
   have:=e.1 (q x hm); omega
  ·refine Is.ite (p:=(x.Kind=2∧¬ (100≤x.Slow∧x.Slow≤x.Speed))∨(x.Kind≠2∧x.Slow≠0)) (by simp only [Bool.or_eq_true,Bool.and_eq_true,Bool.not_eq_true',decide_eq_false_iff_not,decide_eq_true_eq,ne_eq]) (fun hc=>Is.val ?_) (fun hc=>Is.val ⟨rfl, ?_⟩)
   ·refine iff_of_false Bool.false_ne_true fun q=>?_
    exact (e.1 (q x hm)).2.2 hc
   ·exact e.2 ⟨by omega,by omega,hc⟩
 ·simp [Yf]
 ·exact Is.val (iff_of_true rfl (Uf.1 hn))
/-- The indexes of the elements of a section. -/
def Jaz (s:Int) (L:List Jq):Nat→List Int
 | 0=>[]
 | n+1=>Jaz s L n++(match L[n]? with|some x=>if x.Section=s then [(n:Int)] else []|none=>[])
theorem Jis (s:Int) (L:List Jq):∀ n,(Jaz s L n).length≤n
 | 0=>Nat.le_refl _
 | n+1=>by
  have ih:=Jis s L n
  simp only [Jaz,List.length_append]
  split
  ·split <;> simp <;> omega
  ·simp; omega
theorem Jit {s:Int} {L:List Jq} {k:Int}:∀ {n},k∈Jaz s L n↔∃ i x,i<n∧L[i]? = some x∧x.Section=s∧k=(i:Nat)
 | 0=>by simp [Jaz]
 | n+1=>by
  simp only [Jaz,List.mem_append,Jit (n:=n)]
  constructor
  ·rintro (⟨i,x,h1,h2⟩|h)
   ·exact ⟨i,x,by omega,h2⟩
   ·split at h
    ·rename_i x hx
     split at h
     ·rename_i hs
      exact ⟨n,x,by omega,hx,hs,by simpa using h⟩
     ·cases h
    ·cases h
  ·rintro ⟨i,x,h1,h2,h3,h4⟩
   by_cases e:i=n
   ·subst e
    right
    rw [h2]
    simp [h3,h4]
   ·exact .inl ⟨i,x,by omega,h2,h3,h4⟩
theorem Jtl {s:Int} {L:List Jq}:(Jaz s L L.length).length=0↔¬ ∃ x∈L,x.Section=s:=by
 rw [List.length_eq_zero_iff,List.eq_nil_iff_forall_not_mem]
 constructor
 ·rintro h ⟨x,hx,e⟩
  obtain ⟨i,hi⟩:=List.getElem?_of_mem hx
  exact h i (Jit.2 ⟨i,x,Qg hi,hi,e,rfl⟩)
 ·rintro h k hk
  obtain ⟨i,x,_,h2,h3,_⟩:=Jit.1 hk
  exact h ⟨x,List.mem_of_getElem? h2,h3⟩
def Mb (l:Jd) (s:Int):List Int:=if 0≤s∧s<(l.Sections.length:Nat) then Jaz s l.Elements l.Elements.length else []
theorem Jdr {l:Jd} (h:l.Elements.length≤1048576) (s:Int):Yl l s=some (Mb l s):=by
 suffices hs:Is (Yl l s) fun r=>r=Mb l s by
  obtain ⟨r,h1,h2⟩:=hs; rw [h1,h2]
 unfold Yl
 simp only [Wt,Option.bind_some,Bool.cond_true_left]
 refine Is.ite (p:=¬ (0≤s∧s<(l.Sections.length:Nat))) (by simp; omega) (fun hb=>Is.val (by rw [Mb,if_neg hb])) (fun hb=>?_)
 rw [Mb,if_pos (Classical.not_not.1 hb)]
 refine Is.fold (L:=l.Elements) (mk:=fun i m=>(i,m)) (fun i m=>m=Jaz s l.Elements i) [] (by omega) rfl (fun i x m hx hi hI=>?_) (fun m hI=>?_)
 ·subst hI
  unfold Cb
  refine Is.inb hi ?_
  refine Is.onInl (θ:=fun o=>o=.inl (Jaz s l.Elements (i+1))) (Is.at hx (Is.ite Yd (fun hc=>?_) (fun hc=>Is.val ?_))) (fun v hv=>?_) (fun b hb=>by cases hb)
  ·have:=Jis s l.Elements i
   refine Is.bind (Is.app (by simp only [List.length_cons,List.length_nil,Kn,Enc.b]; omega)) fun M hM=>Is.val ?_
   rw [hM]; simp [Jaz,hx,hc]
  ·simp [Jaz,hx,hc]
  ·cases hv; exact Is.val ⟨_,rfl,rfl⟩
 ·subst hI
  unfold Cb
  exact Is.oub (Is.val (Is.val rfl))
theorem Jfk {l:Jd} (h:l.Elements.length≤1048576) (s:Int):Zj l s=some (Mb l s):=by
 suffices hs:Is (Zj l s) fun r=>r=Mb l s by
  obtain ⟨r,h1,h2⟩:=hs; rw [h1,h2]
 unfold Zj
 refine Is.fold (L:=l.Elements) (mk:=fun i m=>(i,m)) (fun i m=>m=if 0≤s∧s<(l.Sections.length:Nat) then Jaz s l.Elements i else []) [] (by omega) (by simp [Jaz]) (fun i x m hx hi hI=>?_) (fun m hI=>?_)
 ·unfold Cy
  refine Is.inb hi ?_
  refine Is.onInl (θ:=fun o=>o=.inl (if 0≤s∧s<(l.Sections.length:Nat) then Jaz s l.Elements (i+1) else [])) (Is.at hx ?_) (fun v hv=>?_) (fun b hb=>by cases hb)
  ·simp only [Wt,Option.bind_some,Bool.cond_false_right]
   refine Is.ite (p:=x.Section=s∧0≤s∧s<(l.Sections.length:Nat)) (by simp; omega) (fun hc=>?_) (fun hc=>Is.val ?_)
   ·rw [if_pos hc.2] at hI ⊢
    have:=Jis s l.Elements i
    refine Is.bind (Is.app (by subst hI; simp only [List.length_cons,List.length_nil,Kn,Enc.b]; omega)) fun M hM=>Is.val ?_
    rw [hM,hI]; simp [Jaz,hx,hc.1]
   ·subst hI
    by_cases hr:0≤s∧s<(l.Sections.length:Nat)
    ·have:¬ x.Section=s:=fun e=>hc ⟨e,hr⟩
     rw [if_pos hr,if_pos hr]; simp [Jaz,hx,this]
    ·rw [if_neg hr,if_neg hr]
  ·cases hv; exact Is.val ⟨_,rfl,rfl⟩
 ·unfold Cy
  exact Is.oub (Is.val (Is.val hI))
theorem Jed {l:Jd} {s:Nat} (h:s<l.Sections.length):(((Mb l (s:Int)).length:Nat):Int)=0↔¬ ∃ x∈l.Elements,x.Section=(s:Nat):=by
 rw [Mb,if_pos (by omega)]
 rw [← Jtl]; omega
theorem Jgu {l:Jd} (h:Sm l):Is (Vu l) fun b=>b=true↔Jt4 l:=by
 unfold Vu
 have g1:=h.sec
 refine Is.all (L:=l.Sections) (fun i _=>∃ x∈l.Elements,x.Section=(i:Nat)) () (by omega) (fun i x hx hi _=>?_) ?_ (fun hn=>?_)
 ·unfold Wm
  refine Is.inb hi (Is.to (Jdr h.el _) ?_)
  refine Is.ite (Yd.trans (Jed hi)) (fun hb=>Is.val (iff_of_false Bool.false_ne_true fun q=>hb (q i hi))) (fun hb=>Is.val ⟨rfl,Classical.not_not.1 hb⟩)
 ·simp [Wm]
 ·exact Is.val (iff_of_true rfl fun s hs=>hn s l.Sections[s] (List.getElem?_eq_getElem hs))
/-! ### Ends -/
theorem Jj1 (a:Int):Ij a=some (Tc a):=by
 unfold Ij Tc
 by_cases h:a<0∨4≤a
 ·have e:(decide (a<0)||decide (4≤a))=true:=by simpa using h
  rw [e,cond_true]
  rw [if_neg (by omega),if_neg (by omega),if_neg (by omega)]
 ·have e:(decide (a<0)||decide (4≤a))=false:=by simpa using h
  rw [e,cond_false]
  have:a=0∨a=1∨a=2∨a=3:=by omega
  rcases this with rfl|rfl|rfl|rfl <;> rfl
theorem Jrp (a:Int):0≤Tc a∧Tc a≤4:=by
 unfold Tc; (repeat' split) <;> omega
theorem Rw {l:Jd} (h:l.Elements.length≤1048576) (e:Jg):Wx l e=some (exS l e):=by
 unfold Wx exS
 have h1:decide (0≤e.El∧e.El≤w64 (((l.Elements.length:Nat):Int) - 1))=Qr l e.El:=by
  rw [Vy (by omega) (by omega)]
  unfold Qr
  rw [Bool.eq_iff_iff]; simp; omega
 simp only [Od,Option.bind_some,h1]
 cases hh:Qr l e.El with
 | false=>rfl
 | true =>
  obtain ⟨x,h2,h3⟩:=Ur hh
  have:=Jrp x.Kind
  simp only [cond_true,h2,h3,Jj1,Option.bind_some,Vy (n:=Tc x.Kind - 1) (by omega) (by omega)]
  rw [Option.some.injEq,Bool.eq_iff_iff]; simp; omega
def jf (L:List Jx) (e:Jg):Option Jg:=(L.find? fun j=>Ka j.A e||Ka j.B e).map fun j=>bif Ka j.A e then j.B else j.A
theorem Jvg (l:Jd) (e:Jg):Qc l e=match jf l.Joints e with|some f=>(f,true)|none=>(⟨0,0⟩,false):=by
 unfold Qc jf
 cases l.Joints.find? fun j=>Ka j.A e||Ka j.B e <;> rfl
theorem Jup (L:List Jx) (j:Jx) (e:Jg):jf (L++[j]) e=(jf L e).or (jf [j] e):=by
 unfold jf
 rw [List.find?_append]
 cases L.find? fun j=>Ka j.A e||Ka j.B e <;> simp
theorem Ja8 {L:List Jx} {e:Jg}:(jf L e).isSome=true↔e∈Vk L:=by
 unfold jf
 rw [Option.isSome_map,List.find?_isSome]
 simp only [Bool.or_eq_true,Em,Vk,List.mem_flatMap,List.mem_cons,List.not_mem_nil,or_false]
 exact ⟨fun ⟨x,h1,h2⟩=>⟨x,h1,h2.imp Eq.symm Eq.symm⟩,fun ⟨x,h1,h2⟩=>⟨x,h1,h2.imp Eq.symm Eq.symm⟩⟩
theorem Jl1 (e:Jg):Ka e e=true:=(Em e e).2 rfl
theorem Jat {e f:Jg} (h:e≠f):Ka e f=false:=by
 cases q:Ka e f
 ·rfl
 ·exact absurd ((Em e f).1 q) h
theorem Jv6 (j:Jx) (h:j.A≠j.B) (e:Jg):jf [j] e=if e=j.B then some j.A else if e=j.A then some j.B else none:=by
 by_cases h1:e=j.B
 ·subst h1
  simp [jf,Jl1,Jat h]
 ·rw [if_neg h1]
  by_cases h2:e=j.A
  ·subst h2
   simp [jf,Jl1]
  ·simp [jf,Jat (Ne.symm h1),Jat (Ne.symm h2),h2]
theorem Jmt {l:Jd} (h:Sm l):Is (Zn l) fun r=>(¬ Mt l∧r.2=1)∨(Mt l∧¬ (Vk l.Joints).Nodup∧r.2=8)∨(Mt l∧(Vk l.Joints).Nodup∧r.2=0∧∀ e,Vo r.1 e=jf l.Joints e):=by
 unfold Zn
 have g3:=h.jo
 refine Is.all (L:=l.Joints) (fun _ j=>exS l j.A=true∧exS l j.B=true∧j.A≠j.B) () (by omega) (fun i x hx hi _=>?_) ?_ (fun hJ=>?_)
 ·unfold Bb
  refine Is.inb hi (Is.at hx ?_)
  simp only [Rw h.el,Option.bind_some,Wt,Bool.cond_true_left]
  refine Is.ite (p:=¬ (exS l x.A=true∧exS l x.B=true∧x.A≠x.B)) (by simp only [Bool.or_eq_true,Bool.not_eq_true',Em]; cases exS l x.A <;> cases exS l x.B <;> simp) (fun hb=>Is.val (.inl ⟨fun q=>hb (q x (List.mem_of_getElem? hx)),rfl⟩)) (fun hb=>Is.val ⟨rfl,Classical.not_not.1 hb⟩)
 ·simp [Bb]
 have hJ:Mt l:=Uf.1 hJ
 refine Is.fold (L:=l.Joints) (mk:=fun i m=>(i,m)) (fun i m=>(∀ e,Vo m e=jf (l.Joints.take i) e)∧(Vk (l.Joints.take i)).Nodup) [] (by omega) ⟨fun e=>by simp [Jds,jf],by simp [Vk]⟩ (fun i x m hx hi hI=>?_) (fun m hI=>?_)
 ·unfold Bd
  refine Is.inb hi (Is.at hx ?_)
  have hx':=hJ x (List.mem_of_getElem? hx)
  rw [hI.1,hI.1]
  have e1:Vk (l.Joints.take (i+1))=Vk (l.Joints.take i)++[x.A,x.B]:=by rw [Fk hx,Jfn]
  refine Is.ite (p:=x.A∈Vk (l.Joints.take i)∨x.B∈Vk (l.Joints.take i)) (Jrh Ja8 Ja8) (fun hb=>Is.val (.inr (.inl ⟨hJ,fun hn=>?_,rfl⟩))) (fun hb=>Is.val ⟨_,rfl, ?_, ?_⟩)
  ·have h2:(Vk (l.Joints.take (i+1))).Nodup:=by
    have:Vk l.Joints=Vk (l.Joints.take (i+1))++Vk (l.Joints.drop (i+1)):=by
     unfold Vk
     rw [← List.flatMap_append,List.take_append_drop]
    rw [this,List.nodup_append] at hn
    exact hn.1
   rw [e1,List.nodup_append] at h2
   rcases hb with hb|hb
   ·exact h2.2.2 _ hb x.A (by simp) rfl
   ·exact h2.2.2 _ hb x.B (by simp) rfl
  ·intro e
   rw [Fk hx,Jup,Jq1,Jq1,hI.1,Jv6 x hx'.2.2]
   have hA:jf (l.Joints.take i) x.A=none:=by
    rw [← Option.not_isSome_iff_eq_none,Ja8]; exact fun q=>hb (.inl q)
   have hB:jf (l.Joints.take i) x.B=none:=by
    rw [← Option.not_isSome_iff_eq_none,Ja8]; exact fun q=>hb (.inr q)
   by_cases q1:e=x.B
   ·subst q1; simp [hB]
   ·by_cases q2:e=x.A
    ·subst q2; simp [hA,q1]
    ·simp [q1,q2]
  ·rw [e1,List.nodup_append]
   refine ⟨hI.2,by simpa using hx'.2.2,fun a ha b hb2 e=>?_⟩
   subst e
   simp only [List.mem_cons,List.not_mem_nil,or_false] at hb2
   rcases hb2 with e|e
   ·exact hb (.inl (e▸ha))
   ·exact hb (.inr (e▸ha))
 ·unfold Bd
  rw [List.take_length] at hI
  exact Is.oub (Is.val (Is.val (.inr (.inr ⟨hJ,hI.2,rfl,hI.1⟩))))
/-! ### Signals -/
def Te (L:List Js) (e:Jg):Int:=match L.findIdx? fun s=>Ka s.At e with|some i=>(i:Nat)|none => -1
theorem Jer {L:List Js} {e:Jg} {i:Nat} {x:Js} (hx:L[i]? = some x) (hi:x.At=e) (hp:∀ j y,j<i→L[j]? = some y→y.At≠e):Te L e=(i:Nat):=by
 have:L.findIdx? (fun s=>Ka s.At e)=some i:=by
  obtain ⟨h1,h2⟩:=List.getElem?_eq_some_iff.1 hx
  rw [List.findIdx?_eq_some_iff_getElem]
  refine ⟨h1,by rw [h2,hi]; exact Jl1 e,fun j hj=>?_⟩
  rw [Jat (hp j L[j] hj (List.getElem?_eq_getElem (by omega)))]; simp
 rw [Te,this]
theorem Jko {L:List Js} {e:Jg} (h:∀ s∈L,s.At≠e):Te L e = -1:=by
 have:L.findIdx? (fun s=>Ka s.At e)=none:=by
  rw [List.findIdx?_eq_none_iff]
  exact fun s hs=>Jat (h s hs)
 rw [Te,this]
theorem Eh {l:Jd} (h:l.Signals.length≤1048576) (e:Jg):Va l e=some (Te l.Signals e):=by
 suffices hs:Is (Va l e) fun r=>r=Te l.Signals e by
  obtain ⟨r,h1,h2⟩:=hs; rw [h1,h2]
 unfold Va
 refine Is.all (L:=l.Signals) (fun _ s=>s.At≠e) () (by omega) (fun i x hx hi hp=>?_) ?_ (fun hn=>?_)
 ·unfold Cw
  refine Is.inb hi (Is.at hx (Is.ite (Em _ _) (fun hc=>Is.val (Jer hx hc hp).symm) (fun hc=>Is.val ⟨rfl,hc⟩)))
 ·simp [Cw]
 ·exact Is.val (Jko (Uf.1 hn)).symm
theorem Jio {L:List Js}:(∀ (i:Nat) x,L[i]? = some x→Te L x.At=(i:Nat))↔(L.map (·.At)).Nodup:=by
 constructor
 ·intro h
  rw [List.Nodup,List.pairwise_map,List.pairwise_iff_getElem]
  intro i j hi hj hij e
  have h1:=h i L[i] (List.getElem?_eq_getElem hi)
  have h2:=h j L[j] (List.getElem?_eq_getElem hj)
  rw [e] at h1; omega
 ·intro h i x hx
  refine Jer hx rfl fun j y hj hy e=>?_
  rw [List.Nodup,List.pairwise_map,List.pairwise_iff_getElem] at h
  obtain ⟨h1,h2⟩:=List.getElem?_eq_some_iff.1 hx
  obtain ⟨h3,h4⟩:=List.getElem?_eq_some_iff.1 hy
  exact h j i h3 h1 hj (by rw [h2,h4]; exact e)
theorem Jd9 (l:Jd) (i:Int):Qe l i=some (Jet l i):=by
 unfold Qe Jet
 simp only [Wt,Option.bind_some,Bool.cond_true_left]
 have e:(decide (i<0)||decide (((l.Elements.length:Nat):Int)≤i)) = !Qr l i:=by
  unfold Qr; rw [Bool.eq_iff_iff]; simp
 rw [e]
 cases h:Qr l i with
 | false=>rfl
 | true =>
  obtain ⟨x,h2,h3⟩:=Ur h
  simp [h2,h3]
theorem Jgb {l:Jd} (h:Sm l) {m:List (Jg×Jg)} (hm:∀ e,Vo m e=jf l.Joints e):Is (Ux l m) fun e =>
  (¬ Jez l∧e=1)∨(Jez l∧¬ (l.Signals.map (·.At)).Nodup∧e=8)∨(Jez l∧(l.Signals.map (·.At)).Nodup∧¬ Ji2 l∧e=14)∨(Jez l∧(l.Signals.map (·.At)).Nodup∧Ji2 l∧e=0):=by
 unfold Ux
 have g3:=h.sg
 refine Is.all (L:=l.Signals) (fun _ s=>exS l s.At=true∧0≤s.Overlap∧s.Overlap≤1000000) () (by omega) (fun i x hx hi _=>?_) ?_ (fun h1=>?_)
 ·unfold Wo
  refine Is.inb hi (Is.at hx ?_)
  simp only [Rw h.el,Od,Option.bind_some,Wt,Bool.cond_true_left]
  refine Is.ite (p:=¬ (exS l x.At=true∧0≤x.Overlap∧x.Overlap≤1000000)) (by cases exS l x.At <;> simp <;> omega) (fun hb=>Is.val (.inl ⟨fun q=>hb (q x (List.mem_of_getElem? hx)),rfl⟩)) (fun hb=>Is.val ⟨rfl,Classical.not_not.1 hb⟩)
 ·simp [Wo]
 have h1:Jez l:=Uf.1 h1
 refine Is.all (L:=l.Signals) (fun i s=>Te l.Signals s.At=(i:Nat)) () (by omega) (fun i x hx hi _=>?_) ?_ (fun h2=>?_)
 ·unfold Wp
  refine Is.inb hi (Is.at hx (Is.to (Eh g3 _) ?_))
  exact Is.ifn Yd (fun hc=>Is.val (.inr (.inl ⟨h1,fun q=>hc (Jio.2 q i x hx),rfl⟩))) (fun hc=>Is.val ⟨rfl,hc⟩)
 ·simp [Wp]
 have h2:=Jio.1 h2
 refine Is.all (L:=l.Signals) (fun _ s=>(Qc l s.At).2=true∧Jet l (Qc l s.At).1.El≠Jet l s.At.El) () (by omega) (fun i x hx hi _=>?_) ?_ (fun h3=>?_)
 ·unfold Wn
  refine Is.inb hi (Is.at hx ?_)
  simp only [Jd9,Option.bind_some,Wt,Bool.cond_true_left,hm]
  refine Is.ite (p:=¬ ((Qc l x.At).2=true∧Jet l (Qc l x.At).1.El≠Jet l x.At.El)) ?_ (fun hb=>Is.val (.inr (.inr (.inl ⟨h1,h2,fun q=>hb (q x (List.mem_of_getElem? hx)),rfl⟩)))) (fun hb=>Is.val ⟨rfl,Classical.not_not.1 hb⟩)
  rw [Jvg]
  cases jf l.Joints x.At <;> simp
 ·simp [Wn]
 exact Is.val (.inr (.inr (.inr ⟨h1,h2,Uf.1 h3,rfl⟩)))
/-! ### Balises -/
theorem Jq4 {l:Jd} {i:Int} (h:l.Elements.length≤1048576):(0≤i∧i≤w64 (((l.Elements.length:Nat):Int) - 1))↔Qr l i=true:=by
 rw [Vy (by omega) (by omega)]; simp [Qr]; omega
theorem Jgn {l:Jd} (h:Sm l):Is (Uz l) fun e=>(¬ Jh9 l∧e=1)∨(Jh9 l∧¬ (l.Balises.map (·.Id)).Nodup∧e=8)∨(Jh9 l∧(l.Balises.map (·.Id)).Nodup∧e=0):=by
 unfold Uz
 have g3:=h.ba
 refine Is.all (L:=l.Balises) (fun _ b=>1≤b.Id∧b.Id≤1073741824∧Qr l b.El=true∧0≤b.Offset∧b.Offset≤Jjc l b.El) () (by omega) (fun i x hx hi _=>?_) ?_ (fun h1=>?_)
 ·unfold Wr
  refine Is.inb hi (Is.at hx ?_)
  simp only [Od,Option.bind_some,Wt,Bool.cond_true_left]
  refine Is.bind (Is.or (p:=¬ (1≤x.Id∧x.Id≤1073741824)∨¬ Qr l x.El=true) (q:=¬ (0≤x.Offset∧x.Offset≤Jjc l x.El)) (by simp only [Bool.or_eq_true,Bool.not_eq_true',decide_eq_false_iff_not,Jq4 h.el]) fun hp=>?_) fun b hb=>?_
  ·have hh:Qr l x.El=true:=Classical.not_not.1 fun q=>hp (.inr q)
   obtain ⟨y,h2,h3⟩:=Ur hh
   rw [h2]
   exact Is.val (by simp [Jjc,h3]; omega)
  ·refine Is.ite hb (fun hc=>Is.val (.inl ⟨fun q=>?_,rfl⟩)) (fun hc=>Is.val ⟨rfl, ?_⟩)
   ·have q1:=q x (List.mem_of_getElem? hx)
    rcases hc with (hc|hc)|hc
    ·exact hc ⟨q1.1,q1.2.1⟩
    ·exact hc q1.2.2.1
    ·exact hc q1.2.2.2
   ·have q1:1≤x.Id∧x.Id≤1073741824:=Classical.not_not.1 fun q=>hc (.inl (.inl q))
    exact ⟨q1.1,q1.2,Classical.not_not.1 fun q=>hc (.inl (.inr q)),Classical.not_not.1 fun q=>hc (.inr q)⟩
 ·simp [Wr]
 have h1:Jh9 l:=Uf.1 h1
 refine Is.fold (L:=l.Balises) (mk:=fun i m=>(i,m)) (fun i m=>(∀ k,(Vo m k).getD false=true↔k∈(l.Balises.take i).map (·.Id))∧((l.Balises.take i).map (·.Id)).Nodup) [] (by omega) ⟨fun k=>by simp [Jds],by simp⟩ (fun i x m hx hi hI=>?_) (fun m hI=>?_)
 ·unfold Wq
  refine Is.inb hi (Is.at hx ?_)
  have e1:(l.Balises.take (i+1)).map (·.Id)=(l.Balises.take i).map (·.Id)++[x.Id]:=by rw [Fk hx]; simp
  refine Is.ite (hI.1 x.Id) (fun hb=>Is.val (.inr (.inl ⟨h1,fun hn=>?_,rfl⟩))) (fun hb=>Is.val ⟨_,rfl, ?_, ?_⟩)
  ·have:(l.Balises.map (·.Id))=(l.Balises.take (i+1)).map (·.Id)++(l.Balises.drop (i+1)).map (·.Id):=by rw [← List.map_append,List.take_append_drop]
   rw [this,e1,List.nodup_append,Jay] at hn
   exact hn.1.2 hb
  ·rw [e1]; exact Jkp hI.1 x.Id
  ·rw [e1,Jay]; exact ⟨hI.2,hb⟩
 ·unfold Wq
  rw [List.take_length] at hI
  exact Is.oub (Is.val (Is.val (.inr (.inr ⟨h1,hI.2,rfl⟩))))
theorem Jgg {l:Jd} (h:Sm l):Is (Bf l) fun e=>e=chk l:=by
 unfold Bf
 refine Is.bind (Jlr l) fun b hb=>Is.ifn hb (fun hc=>Is.val (by simp [chk,hc])) (fun hc=>?_)
 refine Is.bind (Jjt h) fun e he=>?_
 rcases he with ⟨h1,rfl⟩|⟨h1,h2,rfl⟩|⟨h1,h2,rfl⟩
 ·exact Is.val (by simp [chk,hc,h1])
 ·exact Is.val (by simp [chk,hc,h1,h2])
 show Is ((Vf l).bind _) _
 refine Is.bind (Jib h) fun b hb=>?_
 refine Is.bind (φ:=fun c=>c=true↔¬ Xt l) ((Is.or (Tj hb) fun hp=>Is.not (Jgu h)).mono fun c hc=>hc.trans ?_) fun c hc3=>?_
 ·unfold Xt
  by_cases q:∀ x∈l.Elements,Sj l x <;> by_cases q2:Jt4 l <;> simp [q,q2]
 refine Is.ite hc3 (fun h3=>Is.val (by simp [chk,hc,h1,h2,h3])) (fun h3=>?_)
 have h3:Xt l:=Classical.not_not.1 h3
 refine Is.bind (Jmt h) fun r hr=>?_
 rcases hr with ⟨h4,e⟩|⟨h4,h5,e⟩|⟨h4,h5,e,hm⟩
 ·rw [e]; exact Is.val (by simp [chk,hc,h1,h2,h3,h4])
 ·rw [e]; exact Is.val (by simp [chk,hc,h1,h2,h3,h4,h5])
 rw [e]
 show Is ((Ux l r.1).bind _) _
 refine Is.bind (Jgb h hm) fun e he=>?_
 rcases he with ⟨h6,rfl⟩|⟨h6,h7,rfl⟩|⟨h6,h7,h8,rfl⟩|⟨h6,h7,h8,rfl⟩
 ·exact Is.val (by simp [chk,hc,h1,h2,h3,h4,h5,h6])
 ·exact Is.val (by simp [chk,hc,h1,h2,h3,h4,h5,h6,h7])
 ·exact Is.val (by simp [chk,hc,h1,h2,h3,h4,h5,h6,h7,h8])
 show Is ((Uz l).bind _) _
 refine Is.bind (Jgn h) fun e he=>?_
 rcases he with ⟨h9,rfl⟩|⟨h9,h10,rfl⟩|⟨h9,h10,rfl⟩
 ·exact Is.val (by simp [chk,hc,h1,h2,h3,h4,h5,h6,h7,h8,h9])
 ·exact Is.val (by simp [chk,hc,h1,h2,h3,h4,h5,h6,h7,h8,h9,h10])
 ·exact Is.val (by simp [chk,hc,h1,h2,h3,h4,h5,h6,h7,h8,h9,h10])
end PM
/-
 PLAIN, LAYOUT D: the reference's check returns the first error.
-/
namespace PM
open Go Go.RowKit
theorem Jor {α:Type} (L:List α) (eqb:α→α→Bool) (heq:∀ x y,eqb x y=true↔x=y) (hL:L.length≤4194304) {s1:Int→Int→Option (Int⊕(Unit⊕(Int⊕(Unit⊕Bool))))} {s0:Int→Option (Int⊕(Unit⊕Bool))}
  (h1:∀ i k,s1 i k=bif decide (k<i) then ((ixO L i).bind fun x=>(ixO L k).bind fun y=>bif eqb x y then some (.inr (.inr (.inr (.inr true)))) else some (.inl (w64 (k+1)))) else some (.inr (.inl ())))
  (h0:∀ i,s0 i=bif decide (i<((L.length:Nat):Int)) then onInl (Kl (s1 i) 0) (fun _=>some (.inl (w64 (i+1)))) else some (.inr (.inl ()))) :
  Is (onInl (Kl s0 0) fun _=>some false) fun b=>b=true↔¬ L.Nodup:=by
 refine Is.all (L:=L) (fun i x=>∀ j y,j<i→L[j]? = some y→y≠x) () (by omega) (fun i x hx hi _=>?_) ?_ (fun h=>Is.val ?_)
 ·rw [h0]
  refine Is.inb hi ?_
  have hlen:(L.take i).length=i:=by rw [List.length_take]; omega
  refine Is.all (L:=L.take i) (fun _ y=>y≠x) () (by omega) (fun k y hy hk _=>?_) ?_ (fun hn=>Is.val ⟨rfl,fun j y hj hy=>?_⟩)
  ·rw [h1]
   rw [hlen] at hk
   rw [List.getElem?_take,if_pos hk] at hy
   refine Is.inb hk (Is.at hx (Is.at hy (Is.ite (heq x y) (fun hc=>Is.val ?_) (fun hc=>Is.val ⟨rfl,fun e=>hc e.symm⟩))))
   refine iff_of_true rfl fun hn=>?_
   obtain ⟨g1,g2⟩:=List.getElem?_eq_some_iff.1 hx
   obtain ⟨g3,g4⟩:=List.getElem?_eq_some_iff.1 hy
   exact List.pairwise_iff_getElem.1 hn k i g3 g1 hk (by rw [g2,g4,hc])
  ·rw [h1,hlen]; simp
  ·exact hn j y (by rw [List.getElem?_take,if_pos hj]; exact hy)
 ·rw [h0]; simp
 ·refine iff_of_false Bool.false_ne_true (fun q=>q ?_)
  rw [List.Nodup,List.pairwise_iff_getElem]
  intro i j hi hj hij
  exact h j L[j] (List.getElem?_eq_getElem hj) i L[i] hij (List.getElem?_eq_getElem hi)
theorem Mq (L:List ByteArray) (h:L.length≤4194304):Is (Cn L) fun b=>b=true↔¬ L.Nodup :=
 Jor L (fun x y=>decide (x=y)) (fun _ _=>Yd) h (fun _ _=>rfl) (fun _=>rfl)
theorem Jag (L:List Jg) (h:L.length≤4194304):Is (Iq L) fun b=>b=true↔¬ L.Nodup :=
 Jor L Ka Em h (fun _ _=>rfl) (fun _=>rfl)
theorem Jdu (L:List Int) (h:L.length≤4194304):Is (Gh L) fun b=>b=true↔¬ L.Nodup :=
 Jor L (fun x y=>decide (x=y)) (fun _ _=>Yd) h (fun _ _=>rfl) (fun _=>rfl)
theorem Jg1 {l:Jd} (h:Sm l):Is (Fo l) fun e=>(¬ Gj l∧e=2)∨(Gj l∧¬ Gv l∧e=3)∨(Gj l∧Gv l∧¬ Jc3 l∧e=8)∨(Gj l∧Gv l∧Jc3 l∧e=0):=by
 unfold Fo
 have h1:=h.sec; have h2:=h.el; have h3:=h.sg
 simp only [Option.bind_some,Wt,Bool.cond_true_left]
 refine Is.ite (p:=¬ Gj l) (by simp [Gj]; omega) (fun hc=>Is.val (.inl ⟨hc,rfl⟩)) (fun hc=>?_)
 have hc:Gj l:=Classical.not_not.1 hc
 refine Is.bind (Jje h) fun r hr=>?_
 obtain ⟨e0,e1,e2⟩:=hr
 rw [e0,e1,e2]
 refine Is.bind (Is.app (by simp only [List.length_cons,List.length_nil,Kn,Enc.b]; omega)) fun x7 hx7=>?_
 subst hx7
 refine Is.bind (Is.app (by simp only [List.length_append,List.length_map,List.length_cons,List.length_nil,Kn,Enc.b]; omega)) fun x8 hx8=>?_
 subst hx8
 refine Is.bind (Is.app (by simp only [List.length_append,List.length_map,List.length_cons,List.length_nil,Kn,Enc.b]; omega)) fun x9 hx9=>?_
 have hsz:∀ s∈x9,s.size≤1048576:=by
  subst hx9
  intro s hs
  simp only [List.mem_append,List.mem_cons,List.not_mem_nil,or_false,List.mem_map] at hs
  rcases hs with ((rfl|hs)|⟨x,hx,rfl⟩)|⟨x,hx,rfl⟩
  ·exact h.nm
  ·exact h.secn s hs
  ·exact h.eln x hx
  ·exact h.sgn x hx
 have hlen:x9.length≤4194304:=by
  subst hx9
  simp only [List.length_append,List.length_map,List.length_cons,List.length_nil]; omega
 have hN:(∀ s∈x9,Fh s)↔Gv l:=by
  subst hx9
  simp only [Gv,List.mem_append,List.mem_cons,List.not_mem_nil,or_false]
  exact ⟨fun q=>⟨q _ (.inl (.inl (.inl rfl))),fun s hs=>q s (.inl (.inl (.inr hs))),fun s hs=>q s (.inl (.inr hs)),fun s hs=>q s (.inr hs)⟩,
   fun ⟨q1,q2,q3,q4⟩ s hs=>hs.elim (fun hs=>hs.elim (fun hs=>hs.elim (fun e=>e▸q1) (q2 s)) (q3 s)) (q4 s)⟩
 clear hx9
 refine Is.all (L:=x9) (fun _ s=>Fh s) () (by omega) (fun i x hx hi _=>?_) ?_ (fun hn=>?_)
 ·unfold Gc
  refine Is.inb hi (Is.at hx (Is.bind (Ji7 x (hsz x (List.mem_of_getElem? hx))) fun r hr=>?_))
  exact Is.ifn hr (fun hn=>Is.val (.inr (.inl ⟨hc,fun e=>hn (hN.2 e x (List.mem_of_getElem? hx)),rfl⟩))) (fun hy=>Is.val ⟨rfl,hy⟩)
 ·simp [Gc]
 have hn:Gv l:=hN.1 (Uf.1 hn)
 refine Is.bind (Mq _ (by omega)) fun r hr=>?_
 refine Is.bind (Is.or hr fun _=>Is.bind (Mq _ (by simp only [List.length_map]; omega)) fun b hb=>Is.val hb) fun b hb=>?_
 refine Is.bind (Is.or hb fun _=>Is.bind (Mq _ (by simp only [List.length_map]; omega)) fun b hb=>Is.val hb) fun b2 hb2=>?_
 refine Is.ite hb2 (fun hd=>Is.val (.inr (.inr (.inl ⟨hc,hn,fun q=>?_,rfl⟩)))) (fun hd=>Is.val (.inr (.inr (.inr ⟨hc,hn, ?_,rfl⟩))))
 ·rcases hd with (hd|hd)|hd
  ·exact hd q.1
  ·exact hd q.2.1
  ·exact hd q.2.2
 ·exact ⟨Classical.not_not.1 fun q=>hd (.inl (.inl q)),Classical.not_not.1 fun q=>hd (.inl (.inr q)),Classical.not_not.1 fun q=>hd (.inr q)⟩
theorem Jgr (l:Jd) (x:Jq):Is (Fm l x) fun b=>b=true↔Sj l x:=by
 unfold Fm
 simp only [Option.bind_some,Wt,Bool.cond_true_left]
 refine Is.val ?_
 unfold Sj
 by_cases h2:x.Kind=2
 ·simp [h2,Bool.cond_eq_ite]; omega
 ·simp [h2,Bool.cond_eq_ite]; omega
theorem Jcx : ∀ L:List Jx,(Vk L).length=2 * L.length
 | []=>rfl
 | j::L=>by
  have:=Jcx L
  simp only [Vk,List.flatMap_cons,List.length_append,List.length_cons,List.length_nil] at this ⊢
  omega
theorem Jce {l:Jd} (h:Sm l):Is (Yn l) fun e=>(¬ Xt l∧e=1)∨(Xt l∧¬ Mt l∧e=1)∨(Xt l∧Mt l∧¬ (Vk l.Joints).Nodup∧e=8)∨(Xt l∧Mt l∧(Vk l.Joints).Nodup∧e=0):=by
 unfold Yn
 have h1:=h.sec; have h2:=h.el; have h3:=h.jo
 refine Is.all (L:=l.Elements) (fun _ x=>Sj l x) () (by omega) (fun i x hx hi _=>?_) ?_ (fun ha=>?_)
 ·unfold Bz
  refine Is.inb hi (Is.at hx (Is.bind (Jgr l x) fun r hr=>?_))
  exact Is.ifn hr (fun hn=>Is.val (.inl ⟨fun q=>hn (q.1 x (List.mem_of_getElem? hx)),rfl⟩)) (fun hy=>Is.val ⟨rfl,hy⟩)
 ·simp [Bz]
 refine Is.all (L:=l.Sections) (fun i _=>∃ x∈l.Elements,x.Section=(i:Nat)) () (by omega) (fun i x hx hi _=>?_) ?_ (fun hn=>?_)
 ·unfold Cd
  refine Is.inb hi (Is.to (Jfk h.el _) ?_)
  exact Is.ite (Yd.trans (Jed hi)) (fun hb=>Is.val (.inl ⟨fun q=>hb (q.2 i hi),rfl⟩)) (fun hb=>Is.val ⟨rfl,Classical.not_not.1 hb⟩)
 ·simp [Cd]
 have hE:Xt l:=⟨Uf.1 ha,fun s hs=>hn s l.Sections[s] (List.getElem?_eq_getElem hs)⟩
 refine Is.fold (L:=l.Joints) (mk:=fun i m=>(i,m)) (fun i m=>m=Vk (l.Joints.take i)∧∀ j x,j<i→l.Joints[j]? = some x→exS l x.A=true∧exS l x.B=true∧x.A≠x.B) [] (by omega) ⟨rfl,fun j x hj=>by omega⟩ (fun i x m hx hi hI=>?_) (fun m hI=>?_)
 ·unfold Bw
  refine Is.inb hi (Is.at hx ?_)
  simp only [Tt,Option.bind_some,Wt,Bool.cond_true_left]
  refine Is.ite (p:=¬ (exS l x.A=true∧exS l x.B=true∧x.A≠x.B)) (by simp only [Bool.or_eq_true,Bool.not_eq_true',Em]; cases exS l x.A <;> cases exS l x.B <;> simp) (fun hb=>Is.val (.inr (.inl ⟨hE,fun q=>hb (q x (List.mem_of_getElem? hx)),rfl⟩))) (fun hb=>?_)
  have hlen:m.length≤2 * i:=by
   rw [hI.1,Jcx,List.length_take]; omega
  refine Is.bind (Is.app (by simp only [List.length_cons,List.length_nil,Kn,Enc.b]; omega)) fun M hM=>?_
  subst hM
  refine Is.val ⟨_,rfl,by rw [hI.1,Fk hx,Jfn],fun j y hj hy=>?_⟩
  by_cases e:j=i
  ·subst e; rw [hx] at hy; cases hy; exact Classical.not_not.1 hb
  ·exact hI.2 j y (by omega) hy
 unfold Bw
 refine Is.oub (Is.val ?_)
 obtain ⟨hm,hJ⟩:=hI
 rw [List.take_length] at hm
 have hJ:Mt l:=Uf.1 fun i x hx=>hJ i x (Qg hx) hx
 subst hm
 have hlen:(Vk l.Joints).length≤4194304:=by
  rw [Jcx]; omega
 refine Is.bind (Jag _ hlen) fun r hr=>?_
 exact Is.ite hr (fun hd=>Is.val (.inr (.inr (.inl ⟨hE,hJ,hd,rfl⟩)))) (fun hd=>Is.val (.inr (.inr (.inr ⟨hE,hJ,Classical.not_not.1 hd,rfl⟩))))
theorem Jd7 {l:Jd} (h:Sm l) (hJ:Mt l) (hn:(Vk l.Joints).Nodup):Is (Zi l) fun e =>
  (¬ Jez l∧e=1)∨(Jez l∧¬ (l.Signals.map (·.At)).Nodup∧e=8)∨(Jez l∧(l.Signals.map (·.At)).Nodup∧¬ Ji2 l∧e=14)∨(Jez l∧(l.Signals.map (·.At)).Nodup∧Ji2 l∧e=0):=by
 unfold Zi
 have g3:=h.sg; have g4:=h.jo
 refine Is.fold (L:=l.Signals) (mk:=fun i m=>(i,m)) (fun i m=>m=(l.Signals.take i).map (·.At)∧∀ j s,j<i→l.Signals[j]? = some s→exS l s.At=true∧0≤s.Overlap∧s.Overlap≤1000000) [] (by omega) ⟨rfl,fun j x hj=>by omega⟩ (fun i x m hx hi hI=>?_) (fun m hI=>?_)
 ·unfold Ct
  refine Is.inb hi (Is.at hx ?_)
  simp only [Tt,Option.bind_some]
  refine Is.ite (p:=¬ (exS l x.At=true∧0≤x.Overlap∧x.Overlap≤1000000)) (by cases exS l x.At <;> simp <;> omega) (fun hb=>Is.val (.inl ⟨fun q=>hb (q x (List.mem_of_getElem? hx)),rfl⟩)) (fun hb=>?_)
  refine Is.bind (Is.app (by rw [hI.1]; simp only [List.length_map,List.length_take,List.length_cons,List.length_nil,Kn,Enc.b]; omega)) fun M hM=>?_
  subst hM
  refine Is.val ⟨_,rfl,by rw [hI.1,Fk hx]; simp,fun j y hj hy=>?_⟩
  by_cases e:j=i
  ·subst e; rw [hx] at hy; cases hy; exact Classical.not_not.1 hb
  ·exact hI.2 j y (by omega) hy
 unfold Ct
 refine Is.oub (Is.val ?_)
 obtain ⟨hm,h1⟩:=hI
 rw [List.take_length] at hm
 have h1:Jez l:=Uf.1 fun i x hx=>h1 i x (Qg hx) hx
 subst hm
 refine Is.bind (Jag _ (by simp only [List.length_map]; omega)) fun r hr=>?_
 refine Is.ite hr (fun hd=>Is.val (.inr (.inl ⟨h1,hd,rfl⟩))) (fun hd=>?_)
 have h2:=Classical.not_not.1 hd
 have hJO:Jp5 l:=⟨fun j hj=>⟨(hJ j hj).1,(hJ j hj).2.1⟩,hn⟩
 refine Is.all (L:=l.Signals.map (·.At)) (fun _ e=>(Qc l e).2=true∧Jet l (Qc l e).1.El≠Jet l e.El) () (by simp only [List.length_map]; omega) (fun i e hx hi _=>?_) ?_ (fun h3=>?_)
 ·unfold Cs
  refine Is.inb hi (Is.at hx (Is.to (Mr g4 e) ?_))
  obtain ⟨s,hs,rfl⟩:=List.mem_map.1 (List.mem_of_getElem? hx)
  refine Is.bind (Is.or (p:=¬ (Qc l s.At).2=true) (q:=Jet l (Qc l s.At).1.El=Jet l s.At.El) (Tj Iff.rfl) fun hp=>?_) fun b hb=>?_
  ·have hc2:=Classical.not_not.1 hp
   have hf:exS l (Qc l s.At).1=true:=Jtb hJO (e:=s.At) (by rw [← hc2])
   have e1:=Jlw hf
   have e2:=Jlw (h1 s hs).1
   obtain ⟨x,hx,hx2⟩:=Ur e1
   obtain ⟨y,hy,hy2⟩:=Ur e2
   rw [hx,hy]
   refine Is.val ?_
   simp [Jet,e1,e2,hx2,hy2]
  ·refine Is.ite hb (fun hc=>Is.val (.inr (.inr (.inl ⟨h1,h2,fun q=>?_,rfl⟩)))) (fun hc=>Is.val ⟨rfl,Classical.not_not.1 fun q=>hc (.inl q),fun q=>hc (.inr q)⟩)
   rcases hc with hc|hc
   ·exact hc (q s hs).1
   ·exact (q s hs).2 hc
 ·simp [Cs]
 ·refine Is.val (.inr (.inr (.inr ⟨h1,h2,fun s hs=>?_,rfl⟩)))
  exact Uf.1 h3 s.At (List.mem_map.2 ⟨s,hs,rfl⟩)
theorem Jdo {l:Jd} (h:Sm l):Is (Zk l) fun e=>(¬ Jh9 l∧e=1)∨(Jh9 l∧¬ (l.Balises.map (·.Id)).Nodup∧e=8)∨(Jh9 l∧(l.Balises.map (·.Id)).Nodup∧e=0):=by
 unfold Zk
 have g3:=h.ba
 refine Is.fold (L:=l.Balises) (mk:=fun i m=>(i,m)) (fun i m=>m=(l.Balises.take i).map (·.Id)∧∀ j b,j<i→l.Balises[j]? = some b→1≤b.Id∧b.Id≤1073741824∧Qr l b.El=true∧0≤b.Offset∧b.Offset≤Jjc l b.El) [] (by omega) ⟨rfl,fun j x hj=>by omega⟩ (fun i x m hx hi hI=>?_) (fun m hI=>?_)
 ·unfold Cz
  refine Is.inb hi (Is.at hx ?_)
  simp only [Option.bind_some,Wt,Bool.cond_true_left]
  refine Is.bind (Is.or (p:=¬ (1≤x.Id∧x.Id≤1073741824∧Qr l x.El=true∧0≤x.Offset)) (q:=¬ x.Offset≤Jjc l x.El) (by simp [Qr]; omega) fun hp=>?_) fun b hb=>?_
  ·have hp:=Classical.not_not.1 hp
   obtain ⟨y,h2,h3⟩:=Ur hp.2.2.1
   rw [h2]
   exact Is.val (by simp [Jjc,h3])
  ·refine Is.ite hb (fun hc=>Is.val (.inl ⟨fun q=>?_,rfl⟩)) (fun hc=>?_)
   ·have q1:=q x (List.mem_of_getElem? hx)
    rcases hc with hc|hc
    ·exact hc ⟨q1.1,q1.2.1,q1.2.2.1,q1.2.2.2.1⟩
    ·exact hc q1.2.2.2.2
   ·refine Is.bind (Is.app (by rw [hI.1]; simp only [List.length_map,List.length_take,List.length_cons,List.length_nil,Kn,Enc.b]; omega)) fun M hM=>?_
    subst hM
    refine Is.val ⟨_,rfl,by rw [hI.1,Fk hx]; simp,fun j y hj hy=>?_⟩
    by_cases e:j=i
    ·subst e; rw [hx] at hy; cases hy
     have q1:1≤x.Id∧x.Id≤1073741824∧Qr l x.El=true∧0≤x.Offset:=Classical.not_not.1 fun q=>hc (.inl q)
     exact ⟨q1.1,q1.2.1,q1.2.2.1,q1.2.2.2,Classical.not_not.1 fun q=>hc (.inr q)⟩
    ·exact hI.2 j y (by omega) hy
 unfold Cz
 refine Is.oub (Is.val ?_)
 obtain ⟨hm,h1⟩:=hI
 rw [List.take_length] at hm
 have h1:Jh9 l:=Uf.1 fun i x hx=>h1 i x (Qg hx) hx
 subst hm
 refine Is.bind (Jdu _ (by simp only [List.length_map]; omega)) fun r hr=>?_
 exact Is.ite hr (fun hd=>Is.val (.inr (.inl ⟨h1,hd,rfl⟩))) (fun hd=>Is.val (.inr (.inr ⟨h1,Classical.not_not.1 hd,rfl⟩)))
theorem Jg2 {l:Jd} (h:Sm l):Is (Yi l) fun e=>e=chk l:=by
 unfold Yi
 refine Is.bind (Jg1 h) fun e he=>?_
 rcases he with ⟨hc,rfl⟩|⟨hc,h1,rfl⟩|⟨hc,h1,h2,rfl⟩|⟨hc,h1,h2,rfl⟩
 ·exact Is.val (by simp [chk,hc])
 ·exact Is.val (by simp [chk,hc,h1])
 ·exact Is.val (by simp [chk,hc,h1,h2])
 show Is ((Yn l).bind _) _
 refine Is.bind (Jce h) fun e he=>?_
 rcases he with ⟨h3,rfl⟩|⟨h3,h4,rfl⟩|⟨h3,h4,h5,rfl⟩|⟨h3,h4,h5,rfl⟩
 ·exact Is.val (by simp [chk,hc,h1,h2,h3])
 ·exact Is.val (by simp [chk,hc,h1,h2,h3,h4])
 ·exact Is.val (by simp [chk,hc,h1,h2,h3,h4,h5])
 show Is ((Zi l).bind _) _
 refine Is.bind (Jd7 h h4 h5) fun e he=>?_
 rcases he with ⟨h6,rfl⟩|⟨h6,h7,rfl⟩|⟨h6,h7,h8,rfl⟩|⟨h6,h7,h8,rfl⟩
 ·exact Is.val (by simp [chk,hc,h1,h2,h3,h4,h5,h6])
 ·exact Is.val (by simp [chk,hc,h1,h2,h3,h4,h5,h6,h7])
 ·exact Is.val (by simp [chk,hc,h1,h2,h3,h4,h5,h6,h7,h8])
 show Is ((Zk l).bind _) _
 refine Is.bind (Jdo h) fun e he=>?_
 rcases he with ⟨h9,rfl⟩|⟨h9,h10,rfl⟩|⟨h9,h10,rfl⟩
 ·exact Is.val (by simp [chk,hc,h1,h2,h3,h4,h5,h6,h7,h8,h9])
 ·exact Is.val (by simp [chk,hc,h1,h2,h3,h4,h5,h6,h7,h8,h9,h10])
 ·exact Is.val (by simp [chk,hc,h1,h2,h3,h4,h5,h6,h7,h8,h9,h10])
end PM
/-
 PLAIN, LAYOUT E: what a valid layout is; the statements LayoutChecks and LayoutJoins.
-/
namespace PM
open Go Go.RowKit
structure OkL (l:Jd):Prop where
 counts:Gj l
 names:Gv l
 dist:Jc3 l
 elem:Xt l
 joint:Mt l
 ends:(Vk l.Joints).Nodup
 sig:Jez l
 sigd:(l.Signals.map (·.At)).Nodup
 safe:Ji2 l
 bal:Jh9 l
 bald:(l.Balises.map (·.Id)).Nodup
theorem Jos (l:Jd):chk l=0↔OkL l:=by
 constructor
 ·intro h
  unfold chk at h
  by_cases h1:Gj l
  ·by_cases h2:Gv l
   ·by_cases h3:Jc3 l
    ·by_cases h4:Xt l
     ·by_cases h5:Mt l
      ·by_cases h6:(Vk l.Joints).Nodup
       ·by_cases h7:Jez l
        ·by_cases h8:(l.Signals.map (·.At)).Nodup
         ·by_cases h9:Ji2 l
          ·by_cases h10:Jh9 l
           ·by_cases h11:(l.Balises.map (·.Id)).Nodup
            ·exact ⟨h1,h2,h3,h4,h5,h6,h7,h8,h9,h10,h11⟩
            ·simp [h1,h2,h3,h4,h5,h6,h7,h8,h9,h10,h11] at h
           ·simp [h1,h2,h3,h4,h5,h6,h7,h8,h9,h10] at h
          ·simp [h1,h2,h3,h4,h5,h6,h7,h8,h9] at h
         ·simp [h1,h2,h3,h4,h5,h6,h7,h8] at h
        ·simp [h1,h2,h3,h4,h5,h6,h7] at h
       ·simp [h1,h2,h3,h4,h5,h6] at h
      ·simp [h1,h2,h3,h4,h5] at h
     ·simp [h1,h2,h3,h4] at h
    ·simp [h1,h2,h3] at h
   ·simp [h1,h2] at h
  ·simp [h1] at h
 ·rintro ⟨h1,h2,h3,h4,h5,h6,h7,h8,h9,h10,h11⟩
  simp [chk,h1,h2,h3,h4,h5,h6,h7,h8,h9,h10,h11]
theorem Jgo {l:Jd} (h:Sm l):Bf l=some (chk l):=by
 obtain ⟨r,h1,rfl⟩:=Jgg h; exact h1
theorem Ns {l:Jd} (h:Sm l):Yi l=some (chk l):=by
 obtain ⟨r,h1,rfl⟩:=Jg2 h; exact h1
/-! ### Joined ends -/
end PM
