import Derived.Test.YtfpoeepcomnjhaaGreatDoorPmV
import Derived.IntWalk
/-
 PLAIN, A: reading plain functions printed from the program: loops over lists, sums that do not overflow.
-/
namespace PM
open Go Go.RowKit
theorem Qt{n:Int}(h1:-9223372036854775808<=n)(h2:n<=9223372036854775807):w64 n=n:=IntWalk.i64_in n ⟨h1,h2⟩
section
variable {α β σ ρ S:Type}
theorem Vc{L:List α}{i:Nat}{x:α}(h:L[i]? = some x):ixO L (i:Int)=some x:=by
 unfold ixO;rw [if_pos oG]
 simpa using h
theorem Qs{L:List α}{i:Nat}{x:α}(h:L[i]? = some x):i<L.length:=(aG.1 h).1
theorem Vq{step:S->Option (S⊕ρ)}{s s':S}(h:step s=some (.inl s')):Jp step s=Jp step s':=by rw [Jot,h]; rfl
theorem Qd{step:S->Option (S⊕ρ)}{s:S}{r:ρ}(h:step s=some (.inr r)):Jp step s=some r:=by rw [Jot,h]; rfl
theorem Kcs{step:S->Option (S⊕ρ)}{s:S}(h:step s=none):Jp step s=none:=by rw [Jot,h]; rfl
def Jx6(g:Nat->α->σ->Option (σ⊕ρ))(fin:σ->ρ):List α->Nat->σ->Option ρ
 | [],_,s=>some (fin s)
 | x::xs,i,s=>match g i x s with
  | some (.inl s')=>Jx6 g fin xs (i+1) s'
  | some (.inr r)=>some r
  | none=>none
theorem Ju3{step:S->Option (S⊕ρ)}(mk:Nat->σ->S)(g:Nat->α->σ->Option (σ⊕ρ))(fin:σ->ρ)(L:List α)(hs:∀ i x s,L[i]? = some x->step (mk i s)=match g i x s with|some (.inl s')=>some (.inl (mk (i+1) s'))|some (.inr r)=>some (.inr r)|none=>none)(he:∀ s,step (mk L.length s)=some (.inr (fin s))):∀ (n i:Nat) (s:σ),i+n=L.length->Jp step (mk i s)=Jx6 g fin (L.drop i) i s:=by
 intro n;induction n with
 | zero=>
  intro i s h;have:i=L.length:=by omega
  subst this;rw [Qd (he s),List.drop_length]; rfl
 | succ n ih=>
  intro i s h;have hi:i<L.length:=by omega
  have hd:L.drop i=L[i]::L.drop (i+1):=dD hi;have h1:=hs i L[i] s (aB hi);rw [hd,Jx6];cases hg:g i L[i] s with
  | none=>rw [hg] at h1; rw [Kcs h1]
  | some o=>
   rw [hg] at h1;cases o with
   | inl s'=>rw [Vq h1]; exact ih (i+1) s' oG
   | inr r=>rw [Qd h1]
theorem Jw5{step:S->Option (S⊕ρ)}(mk:Nat->σ->S)(g:Nat->α->σ->Option (σ⊕ρ))(fin:σ->ρ)(L:List α)(s:σ)(hs:∀ i x s,L[i]? = some x->step (mk i s)=match g i x s with|some (.inl s')=>some (.inl (mk (i+1) s'))|some (.inr r)=>some (.inr r)|none=>none)(he:∀ s,step (mk L.length s)=some (.inr (fin s))):Jp step (mk 0 s)=Jx6 g fin L 0 s:=by
 have:=Ju3 mk g fin L hs he L.length 0 s oG
 simpa using this
noncomputable def Kkq(step:S->Option (S⊕ρ)):Nat->S->Option ρ
 | 0,s=>Jp step s
 | n+1,s=>(step s).bind fun o=>match o with|.inl s'=>Kkq step n s'|.inr r=>some r
theorem Jse(p:α->Bool)(r:α->ρ)(d:ρ):∀ (L:List α) (i:Nat),Jx6 (fun _ x (_:Unit)=>bif p x then some (.inr (r x)) else some (.inl ())) (fun _=>d) L i ()=some (match L.find? p with|some x=>r x|none=>d)
 | [],_=>rfl
 | x::xs,i=>by
  rw [Jx6,dW];cases h:p x
  ·exact Jse p r d xs (i+1)
  ·rfl
theorem Jd6{step:Int->Option (Int⊕ρ)}(p:α->Bool)(r:α->ρ)(d:ρ)(L:List α)(hL:L.length<9223372036854775807)(hs:∀ (i:Nat) x,L[i]? = some x->step (i:Int)=bif p x then some (.inr (r x)) else some (.inl (w64 ((i:Int)+1))))(he:step (L.length:Int)=some (.inr d)) :
  Jp step 0=some (match L.find? p with|some x=>r x|none=>d):=by
 have:=Jw5 (step:=step) (fun i (_:Unit)=>(i:Int)) (fun _ x (_:Unit)=>bif p x then some (.inr (r x)) else some (.inl ())) (fun _=>d) L () (fun i x s h=>?_) (fun _=>he)
 ·rw [<- Jse p r d L 0,<- this]; rfl
 ·rw [hs i x h,Qt oG (by have:=Qs h; omega)];cases p x <;> rfl
end
end PM
namespace PM
open Go Go.RowKit
section
variable {α β σ ρ S:Type}
def Is(x:Option α)(φ:α->Prop):Prop:=∃ a,x=some a/\φ a
theorem Is.val{a:α}{φ:α->Prop}(h:φ a):Is (some a) φ:=⟨a,rfl,h⟩
theorem Is.mono{x:Option α}{φ ψ:α->Prop}(h:Is x φ)(hm:∀ a,φ a->ψ a):Is x ψ:=let ⟨a,h1,h2⟩:=h; ⟨a,h1,hm a h2⟩
theorem Is.bind{x:Option α}{f:α->Option β}{φ:α->Prop}{ψ:β->Prop}(h:Is x φ)(hf:∀ a,φ a->Is (f a) ψ):Is (x.bind f) ψ:=by
 obtain ⟨a,rfl,h2⟩:=h;exact hf a h2
theorem Is.cond{b:Bool}{x y:Option α}{φ:α->Prop}(h1:b=true->Is x φ)(h2:b=false->Is y φ):Is (bif b then x else y) φ:=by
 cases b
 ·exact h2 rfl
 ·exact h1 rfl
theorem Is.onInl{D:Option (α⊕β)}{f:α->Option β}{θ:α⊕β->Prop}{ψ:β->Prop}(h:Is D θ)(h1:∀ v,θ (.inl v)->Is (f v) ψ)(h2:∀ b,θ (.inr b)->ψ b):Is (onInl D f) ψ:=by
 obtain ⟨o,rfl,ho⟩:=h;cases o with
 | inl v=>exact h1 v ho
 | inr b=>exact ⟨b,rfl,h2 b ho⟩
theorem Is.eq{x:Option α}{a:α}(h:x=some a):Is x (fun y=>y=a):=⟨a,h,rfl⟩
theorem Is.loop{step:S->Option (S⊕ρ)}(mk:Nat->σ->S)(n:Nat)(I:Nat->σ->Prop){θ:ρ->Prop}(s0:σ)(h0:I 0 s0)(hs:∀ i s,i<n->I i s->Is (step (mk i s)) fun o=>match o with|.inl t=>∃ s',t=mk (i+1) s'/\I (i+1) s'|.inr r=>θ r)(he:∀ s,I n s->Is (step (mk n s)) fun o=>match o with|.inl _=>False|.inr r=>θ r):Is (Jp step (mk 0 s0)) θ:=by
 suffices ∀ m i s,i+m=n->I i s->Is (Jp step (mk i s)) θ from this n 0 s0 oG h0
 intro m;induction m with
 | zero=>
  intro i s h hI;have:i=n:=by omega
  subst this;obtain ⟨o,h1,h2⟩:=he s hI;cases o with
  | inl _=>exact h2.elim
  | inr r=>exact ⟨r,Qd h1,h2⟩
 | succ m ih=>
  intro i s h hI;obtain ⟨o,h1,h2⟩:=hs i s oG hI;cases o with
  | inl t=>
   obtain ⟨s',rfl,hI'⟩:=h2;obtain ⟨r,h3,h4⟩:=ih (i+1) s' oG hI';exact ⟨r,by rw [Vq h1]; exact h3,h4⟩
  | inr r=>exact ⟨r,Qd h1,h2⟩
theorem Is.ix{L:List α}{i:Int}(h0:0<=i)(h1:i<(L.length:Nat)):Is (ixO L i) fun x=>L[i.toNat]? = some x:=by
 have h2:i.toNat<L.length:=by omega
 refine ⟨L[i.toNat], ?_,aB h2⟩;unfold ixO;rw [if_pos h0,aB h2]
theorem Is.ixn{L:List α}{i:Nat}(h1:i<L.length):Is (ixO L (i:Int)) fun x=>L[i]? = some x:=⟨L[i],Vc (aB h1),aB h1⟩
theorem Is.app[Enc α]{L ys:List α}(h:(L.length+ys.length) * Enc.b α<=Js/\L.length+ys.length<=Js):Is (Qi L ys) fun M=>M=L++ys:=⟨L++ys,by unfold Qi; rw [if_pos h],rfl⟩
theorem Is.six{b:ByteArray}{i:Nat}(h:i<b.size):Is (Jpf b (i:Int)) fun x=>x=((b[i]'h).toNat:Int):=by
 refine ⟨_, ?_,rfl⟩;unfold Jpf;rw [if_pos oG];simp only [cP];rw [getElem?_pos b i h]; rfl
theorem Kfh{L:List α}{l h:Nat}(h1:l<=h)(h2:h<=L.length):slO L (some (l:Int)) (some (h:Int)) none=some ((L.take h).drop l):=by
 unfold slO Jjs;simp only;rw [if_pos oG,if_pos oG];simp only [cP];rw [if_pos ⟨h1,h2,aJ _⟩]
theorem Kjq{L:List α}{l:Nat}(h1:l<=L.length):slO L (some (l:Int)) none none=some (L.drop l):=by
 unfold slO Jjs;simp only;rw [if_pos oG];simp only [cP];rw [if_pos ⟨h1,aJ _,aJ _⟩,aR]
theorem Jyv{L:List α}{h:Nat}(h1:h<=L.length):slO L none (some (h:Int)) none=some (L.take h):=by
 unfold slO Jjs;simp only;rw [if_pos oG];simp only [cP];rw [if_pos ⟨dO _,h1,aJ _⟩,List.drop_zero]
theorem Zi{n:Nat}(h:n<9223372036854775807):w64 ((n:Int)+1)=((n+1:Nat):Int):=by rw [Qt oG oG]; omega
theorem Kas(a b:Int):w64 (w64 a+b)=w64 (a+b):=by
 show IntKind.i64.wrap (IntKind.i64.wrap a+b)=IntKind.i64.wrap (a+b);simp only [IntKind.wrap_i64]; omega
end
end PM
namespace PM
open Go Go.RowKit
section
variable {α β σ ρ S A:Type}
theorem Is.inb{x y:Option α}{φ:α->Prop}{i n:Nat}(h:i<n)(hx:Is x φ):Is (bif decide ((i:Int)<((n:Nat):Int)) then x else y) φ:=by
 rw [decide_eq_true oG]; exact hx
theorem Is.oub{x y:Option α}{φ:α->Prop}{n:Nat}(hy:Is y φ):Is (bif decide (((n:Nat):Int)<((n:Nat):Int)) then x else y) φ:=by
 rw [decide_eq_false oG]; exact hy
theorem Is.at{L:List α}{i:Nat}{x:α}{f:α->Option β}{φ:β->Prop}(h:L[i]? = some x)(hf:Is (f x) φ):Is ((ixO L (i:Int)).bind f) φ:=by
 rw [Vc h]; exact hf
theorem Is.to{x:Option α}{a:α}{f:α->Option β}{φ:β->Prop}(h:x=some a)(hf:Is (f a) φ):Is (x.bind f) φ:=by rw [h]; exact hf
theorem Is.ite{x y:Option α}{φ:α->Prop}{b:Bool}{p:Prop}(hb:b=true↔p)(h1:p->Is x φ)(h2:¬ p->Is y φ):Is (bif b then x else y) φ:=by
 cases b
 ·exact h2 fun h=>bI (hb.2 h)
 ·exact h1 (hb.1 rfl)
theorem Is.ifn{x y:Option α}{φ:α->Prop}{b:Bool}{p:Prop}(hb:b=true↔p)(h1:¬ p->Is x φ)(h2:p->Is y φ):Is (bif !b then x else y) φ:=by
 cases b
 ·exact h1 fun h=>bI (hb.2 h)
 ·exact h2 (hb.1 rfl)
theorem Is.or{b:Bool}{y:Option Bool}{p q:Prop}(hb:b=true↔p)(hy:¬ p->Is y fun c=>c=true↔q):Is (bif b then some true else y) fun c=>c=true↔p\/q :=
 Is.ite hb (fun h=>Is.val ⟨fun _=>.inl h,fun _=>rfl⟩) (fun h=>(hy h).mono fun _ hc=>hc.trans ⟨.inr,fun o=>o.resolve_left h⟩)
theorem Is.and{b:Bool}{y:Option Bool}{p q:Prop}(hb:b=true↔p)(hy:p->Is y fun c=>c=true↔q):Is (bif b then y else some false) fun c=>c=true↔p/\q :=
 Is.ite hb (fun h=>(hy h).mono fun _ hc=>hc.trans ⟨fun x=>⟨h,x⟩,fun x=>x.2⟩) (fun h=>Is.val ⟨fun e=>absurd e bI,fun e=>absurd e.1 h⟩)
theorem Is.iff{x:Option Bool}{p q:Prop}(h:Is x fun b=>b=true↔p)(e:p↔q):Is x fun b=>b=true↔q:=h.mono fun _ hb=>hb.trans e
theorem Is.not{x:Option Bool}{p:Prop}(h:Is x fun b=>b=true↔p):Is (x.bind fun b=>some (!b)) fun b=>b=true↔¬ p :=
 h.bind fun a ha=>Is.val (by rw [<- ha]; cases a <;> simp)
theorem Is.dec{p q:Prop}[Decidable p](h:p↔q):Is (some (decide p)) fun b=>b=true↔q:=Is.val (by rw [decide_eq_true_iff]; exact h)
theorem Jof{b:Bool}{p:Prop}(h:b=true↔p):(!b)=true↔¬ p:=by rw [<- h]; cases b <;> simp
theorem Juo{b:Bool}{p:Prop}(h:b=true↔p):b=false↔¬ p:=by rw [<- h]; cases b <;> simp
theorem Km{p:Prop}[Decidable p]:decide p=true↔p:=decide_eq_true_iff
theorem Is.all{L:List α}{step:Int->Option (Int⊕(A⊕β))}{K:A->Option β}{ψ:β->Prop}(P:Nat->α->Prop)(v:A)(hL:L.length<9223372036854775807)(hs:∀ (i:Nat) x,L[i]? = some x->i<L.length->(∀ j y,j<i->L[j]? = some y->P j y) ->
   Is (step (i:Int)) fun o=>match o with|.inl t=>t=w64 ((i:Int)+1)/\P i x|.inr (.inl _)=>False|.inr (.inr b)=>ψ b)(he:step (L.length:Int)=some (.inr (.inl v)))(hk:(∀ i x,L[i]? = some x->P i x)->Is (K v) ψ):Is (PM.onInl (Jp step 0) K) ψ:=by
 refine Is.onInl (θ:=fun o=>match o with|.inl w=>w=v/\∀ i x,L[i]? = some x->P i x|.inr b=>ψ b) ?_ ?_ ?_
 ·refine Is.loop (mk:=fun (i:Nat) (_:Unit)=>(i:Int)) L.length (fun i _=>∀ j y,j<i->L[j]? = some y->P j y) () (fun j y hj=>by omega) ?_ ?_
  ·intro i _ hi hI;obtain ⟨o,h1,h2⟩:=hs i L[i] (aB hi) hi hI;refine ⟨o,h1, ?_⟩
   match o,h2 with
   | .inl t,h2=>
    refine ⟨(),by rw [h2.1,Zi oG],fun j y hj hy=>?_⟩
    by_cases e:j=i
    ·subst e; rw [aB hi] at hy; cases hy; exact h2.2
    ·exact hI j y oG hy
   | .inr (.inr b),h2=>exact h2
  ·intro _ hI;refine ⟨_,he,rfl,fun i x hx=>hI i x (Qs hx) hx⟩
 ·intro w hw;rw [hw.1]; exact hk hw.2
 ·intro b hb; exact hb
theorem Is.fold{L:List α}{step:S->Option (S⊕(A⊕β))}{K:A->Option β}{ψ:β->Prop}(mk:Int->σ->S)(I:Nat->σ->Prop)(s0:σ)(hL:L.length<9223372036854775807)(h0:I 0 s0)(hs:∀ (i:Nat) x s,L[i]? = some x->i<L.length->I i s ->
   Is (step (mk (i:Int) s)) fun o=>match o with|.inl t=>∃ s',t=mk (w64 ((i:Int)+1)) s'/\I (i+1) s'|.inr (.inl _)=>False|.inr (.inr b)=>ψ b)(he:∀ s,I L.length s->Is (step (mk (L.length:Int) s)) fun o=>match o with|.inr (.inl v)=>Is (K v) ψ|_=>False):Is (PM.onInl (Jp step (mk 0 s0)) K) ψ:=by
 refine Is.onInl (θ:=fun o=>match o with|.inl w=>Is (K w) ψ|.inr b=>ψ b) ?_ (fun w hw=>hw) (fun b hb=>hb);refine Is.loop (mk:=fun (i:Nat) (s:σ)=>mk (i:Int) s) L.length I s0 h0 ?_ ?_
 ·intro i s hi hI;obtain ⟨o,h1,h2⟩:=hs i L[i] s (aB hi) hi hI;refine ⟨o,h1, ?_⟩
  match o,h2 with
  | .inl t,h2=>
   obtain ⟨s',e,h3⟩:=h2;exact ⟨s',by rw [e,Zi oG],h3⟩
  | .inr (.inr b),h2=>exact h2
 ·intro s hI;obtain ⟨o,h1,h2⟩:=he s hI;refine ⟨o,h1, ?_⟩
  match o,h2 with
  | .inr (.inl v),h2=>exact h2
theorem Qw{L:List α}{i:Nat}{x:α}(h:L[i]? = some x):L.take (i+1)=L.take i++[x]:=by rw [dJ,h]; rfl
theorem Va{L:List α}{p:α->Prop}:(∀ (i:Nat) x,L[i]? = some x->p x)↔∀ x∈L,p x :=
 ⟨fun h x hx=>let ⟨i,hi⟩:=aS hx; h i x hi,fun h _ x hx=>h x (aC hx)⟩
theorem Kfg{L:List α}{i:Nat}{p:α->Prop}:(∀ x∈L.take i,p x)↔∀ j x,j<i->L[j]? = some x->p x:=by
 refine ⟨fun h j x hj hx=>h x (aC (i:=j) (by rw [bS,if_pos hj]; exact hx)),fun h x hx=>?_⟩;obtain ⟨j,hj⟩:=aS hx;rw [bS] at hj;split at hj
 ·exact h j x ‹_› hj
 ·cases hj
theorem Kd9{κ ν:Type}[Key κ][Enc ν](k:κ):Ye ([]:List (κ×ν)) k=none:=rfl
theorem Ki6{κ ν:Type}[Key κ][Enc ν](a:κ)(v:ν)(k:κ):∀ m:List (κ×ν),Ye (Hv a v m) k=if k=a then some v else Ye m k
 | []=>by
  unfold Hv Ye
  by_cases h:k=a <;> simp [h]
 | e::es=>by
  have ih:=Ki6 a v k es;unfold Hv
  by_cases h:a=e.1
  ·subst h;rw [if_pos rfl];unfold Ye
   by_cases h2:k=e.1 <;> simp [h2,dW]
  ·rw [if_neg h];unfold Ye at ih ⊢;simp only [dW]
   by_cases h2:k=e.1
   ·have:¬ k=a:=fun e2=>h (e2.symm.trans h2);simp [h2];intro e3; exact absurd e3.symm h
   ·simp only [h2,decide_false];exact ih
end
end PM
