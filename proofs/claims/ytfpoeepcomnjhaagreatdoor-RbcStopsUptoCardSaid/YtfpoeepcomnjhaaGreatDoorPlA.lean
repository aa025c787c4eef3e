import Derived.Test.YtfpoeepcomnjhaaGreatDoorPmV
import Derived.IntWalk
/-
 PLAIN, A: reading plain functions printed from the program: loops over lists, sums that do not overflow.
-/
namespace PM
open Go Go.RowKit
theorem Jyo {n:Int} (h1:-9223372036854775808≤n) (h2:n≤9223372036854775807):w64 n=n:=IntWalk.i64_in n ⟨h1,h2⟩
section
variable {α β σ ρ S:Type}
theorem Jsw {L:List α} {i:Nat} {x:α} (h:L[i]? = some x):ixO L (i:Int)=some x:=by
 unfold ixO
 rw [if_pos (by omega)]
 simpa using h
theorem Jhf {L:List α} {i:Nat} {x:α} (h:L[i]? = some x):i<L.length:=(List.getElem?_eq_some_iff.1 h).1
theorem Js7 {step:S→Option (S⊕ρ)} {s s':S} (h:step s=some (.inl s')):Ko step s=Ko step s':=by rw [Jqq,h]; rfl
theorem Jmy {step:S→Option (S⊕ρ)} {s:S} {r:ρ} (h:step s=some (.inr r)):Ko step s=some r:=by rw [Jqq,h]; rfl
/-- A loop, n rounds of it laid out. -/
noncomputable def Jye (step:S→Option (S⊕ρ)):Nat→S→Option ρ
 | 0,s=>Ko step s
 | n+1,s=>(step s).bind fun o=>match o with|.inl s'=>Jye step n s'|.inr r=>some r
end
end PM
/-
 PLAIN, B: a plain function comes to a value, and the value is such: rules along its text.
-/
namespace PM
open Go Go.RowKit
section
variable {α β σ ρ S:Type}
def Is (x:Option α) (φ:α→Prop):Prop:=∃ a,x=some a∧φ a
theorem Is.val {a:α} {φ:α→Prop} (h:φ a):Is (some a) φ:=⟨a,rfl,h⟩
theorem Is.mono {x:Option α} {φ ψ:α→Prop} (h:Is x φ) (hm:∀ a,φ a→ψ a):Is x ψ:=let ⟨a,h1,h2⟩:=h; ⟨a,h1,hm a h2⟩
theorem Is.bind {x:Option α} {f:α→Option β} {φ:α→Prop} {ψ:β→Prop} (h:Is x φ) (hf:∀ a,φ a→Is (f a) ψ):Is (x.bind f) ψ:=by
 obtain ⟨a,rfl,h2⟩:=h
 exact hf a h2
theorem Is.cond {b:Bool} {x y:Option α} {φ:α→Prop} (h1:b=true→Is x φ) (h2:b=false→Is y φ):Is (bif b then x else y) φ:=by
 cases b
 ·exact h2 rfl
 ·exact h1 rfl
theorem Is.onInl {D:Option (α⊕β)} {f:α→Option β} {θ:α⊕β→Prop} {ψ:β→Prop} (h:Is D θ) (h1:∀ v,θ (.inl v)→Is (f v) ψ) (h2:∀ b,θ (.inr b)→ψ b):Is (onInl D f) ψ:=by
 obtain ⟨o,rfl,ho⟩:=h
 cases o with
 | inl v=>exact h1 v ho
 | inr b=>exact ⟨b,rfl,h2 b ho⟩
theorem Is.eq {x:Option α} {a:α} (h:x=some a):Is x (fun y=>y=a):=⟨a,h,rfl⟩
/-- A loop over a list: I holds ahead of each element; θ of its end. -/
theorem Is.loop {step:S→Option (S⊕ρ)} (mk:Nat→σ→S) (n:Nat) (I:Nat→σ→Prop) {θ:ρ→Prop} (s0:σ) (h0:I 0 s0)
  (hs:∀ i s,i<n→I i s→Is (step (mk i s)) fun o=>match o with|.inl t=>∃ s',t=mk (i+1) s'∧I (i+1) s'|.inr r=>θ r)
  (he:∀ s,I n s→Is (step (mk n s)) fun o=>match o with|.inl _=>False|.inr r=>θ r):Is (Ko step (mk 0 s0)) θ:=by
 suffices ∀ m i s,i+m=n→I i s→Is (Ko step (mk i s)) θ from this n 0 s0 (by omega) h0
 intro m
 induction m with
 | zero =>
  intro i s h hI
  have:i=n:=by omega
  subst this
  obtain ⟨o,h1,h2⟩:=he s hI
  cases o with
  | inl _=>exact h2.elim
  | inr r=>exact ⟨r,Jmy h1,h2⟩
 | succ m ih =>
  intro i s h hI
  obtain ⟨o,h1,h2⟩:=hs i s (by omega) hI
  cases o with
  | inl t =>
   obtain ⟨s',rfl,hI'⟩:=h2
   obtain ⟨r,h3,h4⟩:=ih (i+1) s' (by omega) hI'
   exact ⟨r,by rw [Js7 h1]; exact h3,h4⟩
  | inr r=>exact ⟨r,Jmy h1,h2⟩
theorem Is.ix {L:List α} {i:Int} (h0:0≤i) (h1:i<(L.length:Nat)):Is (ixO L i) fun x=>L[i.toNat]? = some x:=by
 have h2:i.toNat<L.length:=by omega
 refine ⟨L[i.toNat], ?_,List.getElem?_eq_getElem h2⟩
 unfold ixO
 rw [if_pos h0,List.getElem?_eq_getElem h2]
theorem Jvz {n:Nat} (h:n<9223372036854775807):w64 ((n:Int)+1)=((n+1:Nat):Int):=by rw [Jyo (by omega) (by omega)]; omega
end
end PM
/-
 PLAIN, C: loops over lists, tests and their meaning: shorter rules.
-/
namespace PM
open Go Go.RowKit
section
variable {α β σ ρ S A:Type}
theorem Is.inb {x y:Option α} {φ:α→Prop} {i n:Nat} (h:i<n) (hx:Is x φ):Is (bif decide ((i:Int)<((n:Nat):Int)) then x else y) φ:=by
 rw [decide_eq_true (by omega)]; exact hx
theorem Is.at {L:List α} {i:Nat} {x:α} {f:α→Option β} {φ:β→Prop} (h:L[i]? = some x) (hf:Is (f x) φ):Is ((ixO L (i:Int)).bind f) φ:=by
 rw [Jsw h]; exact hf
theorem Is.to {x:Option α} {a:α} {f:α→Option β} {φ:β→Prop} (h:x=some a) (hf:Is (f a) φ):Is (x.bind f) φ:=by rw [h]; exact hf
theorem Is.ite {x y:Option α} {φ:α→Prop} {b:Bool} {p:Prop} (hb:b=true↔p) (h1:p→Is x φ) (h2:¬ p→Is y φ):Is (bif b then x else y) φ:=by
 cases b
 ·exact h2 fun h=>Bool.false_ne_true (hb.2 h)
 ·exact h1 (hb.1 rfl)
theorem Is.ifn {x y:Option α} {φ:α→Prop} {b:Bool} {p:Prop} (hb:b=true↔p) (h1:¬ p→Is x φ) (h2:p→Is y φ):Is (bif !b then x else y) φ:=by
 cases b
 ·exact h1 fun h=>Bool.false_ne_true (hb.2 h)
 ·exact h2 (hb.1 rfl)
theorem Is.or {b:Bool} {y:Option Bool} {p q:Prop} (hb:b=true↔p) (hy:¬ p→Is y fun c=>c=true↔q):Is (bif b then some true else y) fun c=>c=true↔p∨q :=
 Is.ite hb (fun h=>Is.val ⟨fun _=>.inl h,fun _=>rfl⟩) (fun h=>(hy h).mono fun _ hc=>hc.trans ⟨.inr,fun o=>o.resolve_left h⟩)
theorem Is.and {b:Bool} {y:Option Bool} {p q:Prop} (hb:b=true↔p) (hy:p→Is y fun c=>c=true↔q):Is (bif b then y else some false) fun c=>c=true↔p∧q :=
 Is.ite hb (fun h=>(hy h).mono fun _ hc=>hc.trans ⟨fun x=>⟨h,x⟩,fun x=>x.2⟩) (fun h=>Is.val ⟨fun e=>absurd e Bool.false_ne_true,fun e=>absurd e.1 h⟩)
theorem Ve {p:Prop} [Decidable p]:decide p=true↔p:=decide_eq_true_iff
/-- A loop over a list that ends early unless P holds of each element. -/
theorem Is.all {L:List α} {step:Int→Option (Int⊕(A⊕β))} {K:A→Option β} {ψ:β→Prop} (P:Nat→α→Prop) (v:A) (hL:L.length<9223372036854775807)
  (hs:∀ (i:Nat) x,L[i]? = some x→i<L.length→(∀ j y,j<i→L[j]? = some y→P j y) →
   Is (step (i:Int)) fun o=>match o with|.inl t=>t=w64 ((i:Int)+1)∧P i x|.inr (.inl _)=>False|.inr (.inr b)=>ψ b)
  (he:step (L.length:Int)=some (.inr (.inl v)))
  (hk:(∀ i x,L[i]? = some x→P i x)→Is (K v) ψ):Is (PM.onInl (Ko step 0) K) ψ:=by
 refine Is.onInl (θ:=fun o=>match o with|.inl w=>w=v∧∀ i x,L[i]? = some x→P i x|.inr b=>ψ b) ?_ ?_ ?_
 ·refine Is.loop (mk:=fun (i:Nat) (_:Unit)=>(i:Int)) L.length (fun i _=>∀ j y,j<i→L[j]? = some y→P j y) () (fun j y hj=>by omega) ?_ ?_
  ·intro i _ hi hI
   obtain ⟨o,h1,h2⟩:=hs i L[i] (List.getElem?_eq_getElem hi) hi hI
   refine ⟨o,h1, ?_⟩
   match o,h2 with
   | .inl t,h2 =>
    refine ⟨(),by rw [h2.1,Jvz (by omega)],fun j y hj hy=>?_⟩
    by_cases e:j=i
    ·subst e; rw [List.getElem?_eq_getElem hi] at hy; cases hy; exact h2.2
    ·exact hI j y (by omega) hy
   | .inr (.inr b),h2=>exact h2
  ·intro _ hI
   refine ⟨_,he,rfl,fun i x hx=>hI i x (Jhf hx) hx⟩
 ·intro w hw
  rw [hw.1]; exact hk hw.2
 ·intro b hb; exact hb
theorem Jvq {L:List α} {i:Nat} {x:α} (h:L[i]? = some x):L.take (i+1)=L.take i++[x]:=by rw [List.take_add_one,h]; rfl
theorem Jix {L:List α} {p:α→Prop}:(∀ (i:Nat) x,L[i]? = some x→p x)↔∀ x∈L,p x :=
 ⟨fun h x hx=>let ⟨i,hi⟩:=List.getElem?_of_mem hx; h i x hi,fun h _ x hx=>h x (List.mem_of_getElem? hx)⟩
/-! ### Maps -/
theorem Jxv {κ ν:Type} [Key κ] [Enc ν] (a:κ) (v:ν) (k:κ):∀ m:List (κ×ν),Vy (Cq a v m) k=if k=a then some v else Vy m k
 | []=>by
  unfold Cq Vy
  by_cases h:k=a <;> simp [h]
 | e::es=>by
  have ih:=Jxv a v k es
  unfold Cq
  by_cases h:a=e.1
  ·subst h
   rw [if_pos rfl]
   unfold Vy
   by_cases h2:k=e.1 <;> simp [h2,List.find?_cons]
  ·rw [if_neg h]
   unfold Vy at ih ⊢
   simp only [List.find?_cons]
   by_cases h2:k=e.1
   ·have:¬ k=a:=fun e2=>h (e2.symm.trans h2)
    simp [h2]
    intro e3; exact absurd e3.symm h
   ·simp only [h2,decide_false]
    exact ih
end
end PM
