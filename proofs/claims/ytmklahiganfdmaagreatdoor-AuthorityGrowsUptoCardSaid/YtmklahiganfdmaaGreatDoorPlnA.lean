/-
 Plain laws, joined: LnkA SrtA SrtB WalkA WalkB WalkC WalkD WalkE WalkG WalkH WalkI WalkJ WalkK LayA LayB LayC LayD LayE.
-/
import Derived.Test.YtmklahiganfdmaaGreatDoorDen
import Derived.Test.YtmklahiganfdmaaGreatDoorPlA
/-
 PLAIN, LINKING A: linked balises: Valid, Overdue, equal lists.
-/
namespace PM
open Go Go.RowKit
/-! ### Loops -/
theorem Sw.congr {σ ρ:Type} {f g:σ→Option (σ⊕ρ)} {I:σ→Prop} (h:∀ s,I s→f s=g s∧∀ t,f s=some (.inl t)→I t) {n:Nat} {s:σ} {r:ρ} (hl:Sw f n s r) (hI:I s):Sw g n s r:=by
 induction hl with
 | done e=>exact .done ((h _ hI).1▸e)
 | more e _ ih=>exact .more ((h _ hI).1▸e) (ih ((h _ hI).2 _ e))
theorem Jrq {σ ρ:Type} {f g:σ→Option (σ⊕ρ)} {I:σ→Prop} (h:∀ s,I s→f s=g s∧∀ t,f s=some (.inl t)→I t) {s:σ} (hI:I s):Km f s=Km g s:=by
 apply Option.ext
 intro r
 rw [Je9,Je9]
 refine ⟨fun ⟨n,hn⟩=>⟨n,hn.congr h hI⟩,fun ⟨n,hn⟩=>⟨n,hn.congr (f:=g) (g:=f) (fun s hs=>⟨(h s hs).1.symm,fun t ht=>(h s hs).2 t ((h s hs).1.trans ht)⟩) hI⟩⟩
theorem Is.wf {S ρ:Type} {step:S→Option (S⊕ρ)} (I:S→Prop) (μ:S→Nat) {θ:ρ→Prop} (hs:∀ s,I s→Is (step s) fun o=>match o with|.inl t=>I t∧μ t<μ s|.inr r=>θ r) :
  ∀ (n:Nat) (s:S),μ s≤n→I s→Is (Km step s) θ:=by
 intro n
 induction n with
 | zero =>
  intro s hn hI
  obtain ⟨o,h1,h2⟩:=hs s hI
  cases o with
  | inl t=>exact absurd h2.2 (by omega)
  | inr r=>exact ⟨r,Qu h1,h2⟩
 | succ n ih =>
  intro s hn hI
  obtain ⟨o,h1,h2⟩:=hs s hI
  cases o with
  | inl t =>
   obtain ⟨r,h3,h4⟩:=ih t (by omega) h2.1
   exact ⟨r,by rw [Vt h1]; exact h3,h4⟩
  | inr r=>exact ⟨r,Qu h1,h2⟩
theorem Jvr {α:Type} {L:List α} {i:Nat} (hi:i<L.length) (hL:L.length≤1048576) {f:α→Bool} {q:α→Prop} (hf:∀ y,f y=true↔¬ q y) :
  Is (bif decide (0<(i:Int)) then (ixO L (w64 ((i:Int) - 1))).bind fun y=>some (f y) else some false) fun b=>b=true↔¬ ∀ y,0<i→L[i - 1]?=some y→q y:=by
 by_cases h0:0<i
 ·have hg:L[i - 1]?=some L[i - 1]:=List.getElem?_eq_getElem (by omega)
  rw [decide_eq_true (by omega),cond_true,Va (by omega) (by omega),show (i:Int) - 1=((i - 1:Nat):Int) by omega,Wk hg]
  simp only [Option.bind_some]
  refine Is.val ?_
  rw [hf]
  exact ⟨fun h q=>h (q _ h0 hg),fun h q=>h fun y _ hy=>by rw [hg] at hy; cases hy; exact q⟩
 ·rw [decide_eq_false (by omega),cond_false]
  exact Is.val (iff_of_false Bool.false_ne_true fun h=>h fun y h1=>absurd h1 h0)
theorem Jel {α:Type} {b:Bool} {x y:α}:(bif b then some x else some y)=some (bif b then x else y):=by cases b <;> rfl
theorem Jqa {x:Option Bool}:(x.bind fun r=>some r)=x:=by cases x <;> rfl
theorem Jlc {α:Type} {eqf:α→α→Bool} (heq:∀ x y,eqf x y=true↔x=y) {L M:List α} (h:L.length≤1048576) {step:Int→Option (Int⊕(Unit⊕Bool))}
  (hs:∀ x3,step x3=bif decide (x3<((L.length:Nat):Int)) then ((ixO L x3).bind fun x6=>(ixO M x3).bind fun x7=>bif (!(eqf x6 x7)) then some (.inr (.inr false)) else some (.inl (w64 (x3+1)))) else some (.inr (.inl ()))) :
  Is (bif (!(decide (((L.length:Nat):Int)=((M.length:Nat):Int)))) then some false else onInl (α:=Unit) (β:=Bool) (Km step 0) fun _=>some true) fun b=>b=true↔L=M:=by
 refine Is.ifn (p:=L.length=M.length) (by rw [decide_eq_true_iff]; omega) (fun hl=>Is.val (iff_of_false Bool.false_ne_true fun e=>hl (congrArg _ e))) (fun hl=>?_)
 refine Is.all (L:=L) (fun i x=>M[i]?=some x) () (by omega) (fun i x hx hi _=>?_) (by rw [hs]; simp) (fun hn=>Is.val (iff_of_true rfl ?_))
 ·rw [hs]
  have hg:M[i]?=some M[i]:=List.getElem?_eq_getElem (by omega)
  refine Is.inb hi (Is.at hx (Is.at hg ?_))
  refine Is.ifn (heq _ _) (fun hb=>Is.val (iff_of_false Bool.false_ne_true fun e=>?_)) (fun hb=>Is.val ⟨rfl,by rw [hg,hb]⟩)
  subst e; rw [hg] at hx; cases hx; exact hb rfl
 ·apply List.ext_getElem?
  intro i
  cases hx:L[i]? with
  | some x=>exact (hn i x hx).symm
  | none=>exact (List.getElem?_eq_none (by have:=List.getElem?_eq_none_iff.1 hx; omega)).symm
/-! ### Linked balises -/
def Jvd (l:List Jb) (i:Nat) (x:Jb):Prop:=(∀ y,0<i→l[i - 1]?=some y→y.At≤x.At)∧∀ y∈l.take i,y.Id≠x.Id
def LVal (l:List Jb):Prop:=l.length≤24∧∀ i x,l[i]?=some x→Jvd l i x
theorem Jjp {l:List Jb} (h:l.length≤1048576) (id:Int):Is (Fh l 0 id) fun r=>0≤r↔∃ y∈l,y.Id=id:=by
 unfold Fh
 refine Is.all (L:=l) (fun _ x=>¬ x.Id=id) () (by omega) (fun i x hx hi _=>?_) (by simp [Gb]) (fun hn=>Is.val ?_)
 ·unfold Gb
  refine Is.inb hi (Is.at hx ?_)
  refine Is.ite (p:=x.Id=id) Vb (fun hb=>Is.val (iff_of_true (by omega) ⟨x,List.mem_of_getElem? hx,hb⟩)) (fun hb=>Is.val ⟨rfl,hb⟩)
 ·refine iff_of_false (by omega) fun ⟨y,hy,e⟩=>?_
  exact Fk.1 hn y hy e
theorem Jgv (l:List Jb):Is (Du l) fun b=>b=true↔LVal l:=by
 unfold Du
 refine Is.ite (p:=24<l.length) (by rw [decide_eq_true_iff]; omega) (fun h=>Is.val (iff_of_false Bool.false_ne_true fun q=>absurd q.1 (by omega))) (fun h=>?_)
 refine Is.all (L:=l) (fun i x=>Jvd l i x) () (by omega) (fun i x hx hi _=>?_) (by simp [Ev]) (fun hn=>Is.val (iff_of_true rfl ⟨by omega,hn⟩))
 unfold Ev
 refine Is.inb hi (Is.at hx ?_)
 refine Is.bind (Jvr hi (by omega) (f:=fun y=>decide (x.At<y.At)) (q:=fun y=>y.At≤x.At) fun y=>by simp) fun b hb=>?_
 refine Is.bind (Is.or (q:=∃ y∈l.take i,y.Id=x.Id) hb fun _=>?_) fun c hc=>?_
 ·refine Is.to (Jyi (by omega)) ?_
  exact (Jjp (by simp; omega) x.Id).bind fun r hr=>Is.dec hr
 ·have e:(¬ (∀ y,0<i→l[i - 1]?=some y→y.At≤x.At)∨∃ y∈l.take i,y.Id=x.Id)↔¬ Jvd l i x:=by
   unfold Jvd
   rw [Classical.not_and_iff_not_or_not]
   simp
  refine Is.ite (hc.trans e) (fun hn=>Is.val (iff_of_false Bool.false_ne_true fun q=>hn (q.2 i x hx))) (fun hn=>Is.val ⟨rfl,Classical.not_not.1 hn⟩)
/-! ### The laws of Valid and Overdue -/
end PM
/-
 PLAIN, SORT A: slices.SortStableFunc at linked balises, in order of coordinates and numbers: the pieces (insertion, exchange, rotation, search).
-/
namespace PM
open Go Go.RowKit
/-! ### The order -/
def ltL (x y:Jb):Prop:=x.At<y.At∨(x.At=y.At∧x.Id<y.Id)
instance (x y:Jb):Decidable (ltL x y):=by unfold ltL; infer_instance
def leL (x y:Jb):Prop:=¬ ltL y x
theorem Jxe (x:Jb):leL x x:=by unfold leL ltL; omega
theorem Iy {x y z:Jb} (h:leL x y) (g:leL y z):leL x z:=by unfold leL ltL at *; omega
theorem Xb {x y:Jb} (h:ltL x y):leL x y:=by unfold leL ltL at *; omega
theorem Jq3 {x y z:Jb} (h:leL x y) (g:ltL y z):ltL x z:=by unfold leL ltL at *; omega
theorem Jkf (a b:Int):Yg a b=some (if a<b then -1 else if b<a then 1 else 0):=by
 unfold Yg De
 simp only [decide_true,Bool.not_true,Option.bind_some,cond_false]
 by_cases h1:a<b
 ·simp [h1]
 ·by_cases h2:b<a <;> simp [h1,h2]
theorem Ke1 (a b:Int):Lw [a,b]=some (if a=0 then b else a):=by
 unfold Lw
 have i0:ixO [a,b] 0=some a:=rfl
 have i1:ixO [a,b] 1=some b:=rfl
 by_cases ha:a=0
 ·subst ha
  rw [Vt (s':=(1:Int)) (by simp only [Bv,i0,Option.bind_some]; rfl)]
  by_cases hb:b=0
  ·subst hb
   rw [Vt (s':=(2:Int)) (by simp only [Bv,i1,Option.bind_some]; rfl),Qu (r:=.inl ()) (by rfl)]
   rfl
  ·rw [Qu (r:=.inr b) (by simp only [Bv,i1,Option.bind_some,decide_eq_false hb]; rfl)]
   simp [onInl,Vn]
 ·rw [Qu (r:=.inr a) (by simp only [Bv,i0,Option.bind_some,decide_eq_false ha]; rfl)]
  simp [onInl,Vn,ha]
theorem Jou (x y:Jb):∃ r:Int,Wq x y=some r∧decide (r<0)=decide (ltL x y):=by
 unfold Wq
 rw [Jkf,Jkf]
 simp only [Option.bind_some,Ke1]
 refine ⟨_,rfl,decide_eq_decide.2 ?_⟩
 unfold ltL
 (repeat' split) <;> omega
/-! ### Places -/
section
variable {α:Type}
theorem xix {N i:Nat} (h:i<N):Fc 0 N (i:Int)=some i:=by
 unfold Fc
 rw [if_pos (by omega)]
 simp
theorem xld {D:List α} {N i:Nat} {x:α} (hN:D.length=N) (h:D[i]?=some x):Eb D N i=some x:=by
 unfold Eb
 rw [if_pos hN,h]
theorem Jg8 (A:List α) (x:α) (B:List α):(A++x::B)[A.length]?=some x:=by simp
theorem Jpf (A:List α) (x y:α) (B:List α):(A++x::y::B)[A.length+1]?=some y:=by
 rw [List.getElem?_append_right (by omega)]; simp
theorem Jr3 (A:List α) (x y:α) (B:List α):((A++x::y::B).set (A.length+1) x).set A.length y=A++y::x::B:=by
 rw [List.set_append_right _ _ (by omega),Nat.add_sub_cancel_left,List.set_append_right _ _ (by omega),Nat.sub_self]; rfl
theorem Jvy (A:List α) (x y:α) (B:List α):((A++x::y::B).set A.length y).set (A.length+1) x=A++y::x::B:=by
 rw [List.set_append_right _ _ (by omega),Nat.sub_self,List.set_append_right _ _ (by omega),Nat.add_sub_cancel_left]; rfl
end
theorem Kbq {i:Nat} (h:i<1048577):w64 (((i+1:Nat):Int) - 1)=(i:Int):=by rw [Va (by omega) (by omega)]; omega
theorem Jt6 {i:Nat} (h:i<1048577):w64 ((i:Int)+1)=((i+1:Nat):Int):=Gx (by omega)
theorem Jtd {i j:Nat} (h:i<1048577) (h2:j<1048577):w64 ((i:Int)+(j:Int))=((i+j:Nat):Int):=by rw [Va (by omega) (by omega)]; omega
theorem Jdo {i j:Nat} (h:i<4194304) (h2:j≤i):w64 ((i:Int) - (j:Int))=((i - j:Nat):Int):=by rw [Va (by omega) (by omega)]; omega
theorem Jxb {i j:Nat} (h:i<1048577) (h2:j<1048577):w64 ((IntKind.u64.wrap (w64 ((i:Int)+(j:Int)))).fdiv 2)=(((i+j) / 2:Nat):Int):=by
 rw [Jtd h h2,IntWalk.u64_in _ ⟨by omega,by omega⟩]
 rw [Int.fdiv_eq_ediv_of_nonneg _ (by omega),Va (by omega) (by omega)]
 omega
/-! ### Insertion -/
theorem Mb (a:List Jb):(a.map cellsOf).length=a.length:=List.length_map _
theorem Jxg (a0 P Q:List Jb) (hL:a0.length≤1048576):∀ (n:Nat) (S1 S2:List Jb) (x:Jb),S1.length=n→(P++S1++x::(S2++Q)).length=a0.length→(S1++S2).Pairwise leL→(∀ y∈S2,ltL x y) →
  ∃ M,Km (Qj a0 (P.length:Int)) (((P.length+S1.length:Nat):Int),P++S1++x::(S2++Q))=some (.inl (P++M++Q))∧M.Perm (x::(S1++S2))∧M.Pairwise leL:=by
 intro n
 induction n with
 | zero =>
  intro S1 S2 x hn hlen hs hx
  have:S1=[]:=List.eq_nil_of_length_eq_zero hn
  subst this
  refine ⟨x::S2, ?_,List.Perm.refl _, ?_⟩
  ·rw [Qu (r:=.inl (P++[]++x::(S2++Q))) (by
    simp only [Qj,List.length_nil,Nat.add_zero,decide_eq_false (show ¬ ((P.length:Int)<(P.length:Int)) by omega),cond_false,Option.bind_some])]
   simp
  ·rw [List.pairwise_cons]
   exact ⟨fun y hy=>Xb (hx y hy),by simpa using hs⟩
 | succ n ih =>
  intro S1 S2 x hn hlen hs hx
  obtain ⟨S,y,rfl⟩:∃ S y,S1=S++[y]:=by
   rcases List.eq_nil_or_concat S1 with e|⟨S,y,e⟩
   ·subst e; cases hn
   ·exact ⟨S,y,by simpa using e⟩
  have hSn:S.length=n:=by simpa using hn
  have hD:P++(S++[y])++x::(S2++Q)=(P++S)++y::x::(S2++Q):=by simp
  have hlen':((P++S)++y::x::(S2++Q)).length=a0.length:=by rw [← hD]; exact hlen
  have hA:(P++S).length=P.length+S.length:=by simp
  have hb:P.length+S.length+1<a0.length:=by rw [← hlen']; simp; omega
  have i1:=xix hb
  have i0:=xix (N:=a0.length) (i:=P.length+S.length) (by omega)
  have g1:((P++S)++y::x::(S2++Q))[P.length+S.length+1]?=some x:=by rw [← hA]; exact Jpf _ _ _ _
  have g0:((P++S)++y::x::(S2++Q))[P.length+S.length]?=some y:=by rw [← hA]; exact Jg8 _ _ _
  obtain ⟨r,hr,hd⟩:=Jou x y
  have hj:P.length+(S++[y]).length=P.length+S.length+1:=by simp; omega
  rw [hD,hj]
  by_cases hlt:ltL x y
  ·obtain ⟨M,m1,m2,m3⟩:=ih S (y::S2) x hSn (by rw [← hlen']; simp) (by simpa using hs) (fun z hz=>by
    rcases List.mem_cons.1 hz with rfl|hz
    ·exact hlt
    ·exact hx z hz)
   refine ⟨M, ?_,m2.trans (by simp),m3⟩
   rw [Vt (s':=(((P.length+S.length:Nat):Int),P++S++x::(y::S2++Q))) ?_]
   ·exact m1
   ·have e1:decide ((P.length:Int)<((P.length+S.length+1:Nat):Int))=true:=decide_eq_true (by omega)
    have hsw:=Jr3 (P++S) y x (S2++Q)
    rw [hA] at hsw
    have hl2:(((P++S)++y::x::(S2++Q)).set (P.length+S.length+1) y).length=a0.length:=by rw [List.length_set]; exact hlen'
    have g2:(((P++S)++y::x::(S2++Q)).set (P.length+S.length+1) y)[P.length+S.length]?=some y:=by
     rw [List.getElem?_set_ne (by omega)]; exact g0
    simp only [Qj,Mb,e1,cond_true,Kbq (show P.length+S.length<1048577 by omega),i1,i0,Option.bind_some,xld hlen' g1,xld hlen' g0,hr,hd,decide_eq_true hlt,xld hl2 g2]
    rw [hsw]; simp
  ·refine ⟨S++y::x::S2, ?_, ?_, ?_⟩
   ·rw [Qu (r:=.inl ((P++S)++y::x::(S2++Q))) ?_]
    ·simp
    ·have e1:decide ((P.length:Int)<((P.length+S.length+1:Nat):Int))=true:=decide_eq_true (by omega)
     simp only [Qj,Mb,e1,cond_true,Kbq (show P.length+S.length<1048577 by omega),i1,i0,Option.bind_some,xld hlen' g1,xld hlen' g0,hr,hd,decide_eq_false hlt,cond_false]
   ·have:(S++y::x::S2).Perm (x::(S++y::S2)):=by
     have:=@List.perm_middle _ x (S++[y]) S2
     simpa using this
    simpa using this
   ·have hs':(S++y::S2).Pairwise leL:=by simpa using hs
    rw [List.pairwise_append] at hs' ⊢
    obtain ⟨q1,q2,q3⟩:=hs'
    rw [List.pairwise_cons] at q2
    refine ⟨q1, ?_,fun u hu v hv=>?_⟩
    ·rw [List.pairwise_cons,List.pairwise_cons]
     refine ⟨fun z hz=>?_,fun z hz=>Xb (hx z hz),q2.2⟩
     rcases List.mem_cons.1 hz with rfl|hz
     ·exact hlt
     ·exact q2.1 z hz
    ·rcases List.mem_cons.1 hv with rfl|hv
     ·exact q3 u hu _ (by simp)
     ·rcases List.mem_cons.1 hv with rfl|hv
      ·exact Iy (q3 u hu y (by simp)) hlt
      ·exact q3 u hu v (by simp [hv])
theorem Jne (a0 P Q:List Jb) (hL:a0.length≤1048576) (b:Nat):∀ (R S:List Jb),S≠[]→b=P.length+S.length+R.length→(P++S++(R++Q)).length=a0.length→S.Pairwise leL →
  ∃ M,Km (Ql a0 (P.length:Int) (b:Int)) (((P.length+S.length:Nat):Int),P++S++(R++Q))=some (.inl (P++M++Q))∧M.Perm (S++R)∧M.Pairwise leL:=by
 intro R
 induction R with
 | nil =>
  intro S hS hb hlen hs
  refine ⟨S, ?_,by simp,hs⟩
  rw [Qu (r:=.inl (P++S++([]++Q))) (by
   simp only [Ql,decide_eq_false (show ¬ (((P.length+S.length:Nat):Int)<(b:Int)) by simp at hb; omega),cond_false])]
  simp
 | cons x R ih =>
  intro S hS hb hlen hs
  have hlen1:(P++S++x::([]++(R++Q))).length=a0.length:=by rw [← hlen]; simp
  obtain ⟨M,m1,m2,m3⟩:=Jxg a0 P (R++Q) hL S.length S [] x rfl hlen1 (by simpa using hs) (fun y hy=>by cases hy)
  have hMl:M.length=S.length+1:=by rw [m2.length_eq]; simp
  have hM:M≠[]:=fun e=>by rw [e] at hMl; simp at hMl
  have hbl:b≤1048576:=by
   simp only [List.length_append,List.length_cons] at hlen hb; omega
  obtain ⟨M2,n1,n2,n3⟩:=ih M hM (by rw [hMl]; simp at hb; omega) (by rw [← hlen]; simp [hMl]; omega) m3
  refine ⟨M2, ?_,n2.trans ?_,n3⟩
  ·rw [Vt (s':=(((P.length+M.length:Nat):Int),P++M++(R++Q))) ?_]
   ·exact n1
   ·have e1:decide (((P.length+S.length:Nat):Int)<(b:Int))=true:=decide_eq_true (by simp at hb; omega)
    simp only [List.nil_append] at m1
    simp only [Ql,e1,cond_true,List.cons_append]
    rw [m1]
    simp only [onInl,Vn,Option.bind_some,Jt6 (show P.length+S.length<1048577 by simp at hb; omega),hMl]
    rfl
  ·have:(M++R).Perm ((x::(S++[]))++R):=m2.append_right R
   refine this.trans ?_
   simp only [List.append_nil,List.cons_append]
   exact (List.perm_middle).symm
theorem Jfd (P X Q:List Jb) (hL:(P++X++Q).length≤1048576):∃ M,Kv (P++X++Q) (P.length:Int) ((P.length+X.length:Nat):Int)=some (P++M++Q)∧M.Perm X∧M.Pairwise leL:=by
 unfold Kv
 have hb:P.length<1048577:=by simp only [List.length_append] at hL; omega
 rw [Jt6 hb]
 cases X with
 | nil =>
  refine ⟨[], ?_,List.Perm.refl _,List.Pairwise.nil⟩
  rw [Qu (r:=.inl (P++[]++Q)) (by
   simp only [Ql,List.length_nil,decide_eq_false (show ¬ (((P.length+1:Nat):Int)<((P.length+0:Nat):Int)) by omega),cond_false])]
  rfl
 | cons x R =>
  obtain ⟨M,m1,m2,m3⟩:=Jne (P++x::R++Q) P Q hL (P.length+(x::R).length) R [x] (by simp) (by simp; omega) (by simp) (by simp)
  refine ⟨M, ?_,by simpa using m2,m3⟩
  have e:P++x::R++Q=P++[x]++(R++Q):=by simp
  have e2:P.length+[x].length=P.length+1:=rfl
  rw [e2] at m1
  rw [show (P++x::R++Q)=P++[x]++(R++Q) from e] at m1 ⊢
  rw [m1]; rfl
/-! ### Exchange of two runs of one length -/
theorem Jly (a0:List Jb) (hL:a0.length≤1048576) (a b n:Nat):∀ (X Y:List Jb) (A B Q:List Jb) (i:Nat),X.length=Y.length→i+X.length=n→A.length=a+i→A.length+X.length+B.length=b+i→(A++X++B++Y++Q).length=a0.length →
  Km (Qp a0 (a:Int) (b:Int) (n:Int)) ((i:Int),A++X++B++Y++Q)=some (.inl (A++Y++B++X++Q)):=by
 intro X
 induction X with
 | nil =>
  intro Y A B Q i hxy hi ha hb hlen
  have:Y=[]:=List.eq_nil_of_length_eq_zero hxy.symm
  subst this
  rw [Qu (r:=.inl (A++[]++B++[]++Q)) (by
   simp only [Qp,decide_eq_false (show ¬ ((i:Int)<(n:Int)) by simp at hi; omega),cond_false])]
 | cons x X ih =>
  intro Y A B Q i hxy hi ha hb hlen
  cases Y with
  | nil=>cases hxy
  | cons y Y =>
   have hxy':X.length=Y.length:=by simpa using hxy
   simp only [List.length_cons] at hi hb
   have hlen0:=hlen
   simp only [List.length_append,List.length_cons] at hlen
   -- the places
   have e0:A++x::X++B++y::Y++Q=A++x::(X++B++y::(Y++Q)):=by simp
   have e1:A++x::X++B++y::Y++Q=(A++x::(X++B))++y::(Y++Q):=by simp
   have hA1:(A++x::(X++B)).length=b+i:=by simp; omega
   have gb:(A++x::X++B++y::Y++Q)[b+i]?=some y:=by rw [e1,← hA1]; exact Jg8 _ _ _
   have ga:(A++x::X++B++y::Y++Q)[a+i]?=some x:=by rw [e0,← ha]; exact Jg8 _ _ _
   have s1:(A++x::X++B++y::Y++Q).set (a+i) y=A++y::(X++B++y::(Y++Q)):=by
    rw [e0,← ha,List.set_append_right _ _ (Nat.le_refl _),Nat.sub_self]; rfl
   have s2:(A++y::(X++B++y::(Y++Q))).set (b+i) x=(A++[y])++X++(B++[x])++Y++Q:=by
    have e3:A++y::(X++B++y::(Y++Q))=(A++y::(X++B))++y::(Y++Q):=by simp
    have hA3:(A++y::(X++B)).length=b+i:=by simp; omega
    rw [e3,← hA3,List.set_append_right _ _ (Nat.le_refl _),Nat.sub_self]
    simp
   have g3:(A++y::(X++B++y::(Y++Q)))[b+i]?=some y:=by
    have e3:A++y::(X++B++y::(Y++Q))=(A++y::(X++B))++y::(Y++Q):=by simp
    have hA3:(A++y::(X++B)).length=b+i:=by simp; omega
    rw [e3,← hA3]; exact Jg8 _ _ _
   have l1:(A++y::(X++B++y::(Y++Q))).length=a0.length:=by rw [← hlen0]; simp
   have hstep:Qp a0 (a:Int) (b:Int) (n:Int) ((i:Int),A++x::X++B++y::Y++Q)=some (.inl (((i+1:Nat):Int),(A++[y])++X++(B++[x])++Y++Q)):=by
    simp only [Qp,Mb,decide_eq_true (show (i:Int)<(n:Int) by omega),cond_true,Jtd (show b<1048577 by omega) (show i<1048577 by omega),Jtd (show a<1048577 by omega) (show i<1048577 by omega),
     xix (show b+i<a0.length by omega),xix (show a+i<a0.length by omega),Option.bind_some,xld hlen0 gb,xld hlen0 ga,s1,xld l1 g3,s2,Jt6 (show i<1048577 by omega)]
   rw [Vt hstep]
   have:=ih Y (A++[y]) (B++[x]) Q (i+1) hxy' (by omega) (by simp; omega) (by simp; omega) (by simp; omega)
   rw [this]
   simp
theorem Jau (A X B Y Q:List Jb) (hL:(A++X++B++Y++Q).length≤1048576) (hxy:X.length=Y.length) :
  Kt (A++X++B++Y++Q) (A.length:Int) ((A.length+X.length+B.length:Nat):Int) (X.length:Int)=some (A++Y++B++X++Q):=by
 unfold Kt
 have:=Jly (A++X++B++Y++Q) hL A.length (A.length+X.length+B.length) X.length X Y A B Q 0 hxy (by omega) (by omega) (by omega) rfl
 rw [show ((0:Nat):Int)=0 from rfl] at this
 rw [this]; rfl
/-! ### Rotation -/
theorem Jr8 (m:Nat) (hm:m≤1048576):∀ (n:Nat) (U V A Q:List Jb),U.length+V.length≤n→0<U.length→0<V.length→A.length+U.length=m→(A++U++V++Q).length≤1048576 →
  ∃ (A' U' V' Q':List Jb),Km (Qw (m:Int)) ((U.length:Int),A++U++V++Q,(V.length:Int))=some (.inl (A'++U'++V'++Q',(U'.length:Int)))∧U'.length=V'.length∧0<U'.length∧A'.length+U'.length=m∧A'++V'++U'++Q'=A++V++U++Q∧(A'++U'++V'++Q').length=(A++U++V++Q).length:=by
 intro n
 induction n with
 | zero=>intro U V A Q h h1 h2; omega
 | succ n ih =>
  intro U V A Q h h1 h2 ha hL
  have hlen:=hL
  simp only [List.length_append] at hlen
  by_cases e:U.length=V.length
  ·refine ⟨A,U,V,Q, ?_,e,h1,ha,rfl,rfl⟩
   rw [Qu (r:=.inl (A++U++V++Q,(U.length:Int))) (by
    simp only [Qw,decide_eq_true (show (U.length:Int)=(V.length:Int) by omega),Bool.not_true,cond_false])]
  ·have en:decide ((U.length:Int)=(V.length:Int))=false:=decide_eq_false (by omega)
   by_cases hlt:V.length<U.length
   · -- the first part of U changes places with V
    have hU:U=U.take V.length++U.drop V.length:=(List.take_append_drop _ _).symm
    have t1:(U.take V.length).length=V.length:=by simp; omega
    have t2:(U.drop V.length).length=U.length - V.length:=by simp
    have hsw:=Jau A (U.take V.length) (U.drop V.length) V Q (by rw [List.append_assoc A,← hU]; exact hL) t1
    rw [List.append_assoc A,← hU,t1,t2] at hsw
    have e2:A.length+V.length+(U.length - V.length)=m:=by omega
    rw [e2] at hsw
    obtain ⟨A',U',V',Q',k1,k2,k3,k4,k5,k6⟩:=ih (U.drop V.length) (U.take V.length) (A++V) Q (by omega) (by omega) (by omega) (by simp; omega) (by simp; omega)
    rw [t1,t2] at k1
    refine ⟨A',U',V',Q', ?_,k2,k3,k4, ?_, ?_⟩
    ·rw [Vt (s':=(((U.length - V.length:Nat):Int),A++V++U.drop V.length++U.take V.length++Q,(V.length:Int))) ?_]
     ·exact k1
     ·have e3:m - U.length=A.length:=by omega
      simp only [Qw,en,Bool.not_false,cond_true,decide_eq_true (show (V.length:Int)<(U.length:Int) by omega),Jdo (show m<4194304 by omega) (show U.length≤m by omega),e3,hsw,Option.bind_some,Jdo (show U.length<4194304 by omega) (show V.length≤U.length by omega)]
    ·rw [k5,List.append_assoc (A++V),List.take_append_drop]
    ·rw [k6]; simp; omega
   · -- U changes places with the last part of V
    have hV:V=V.take (V.length - U.length)++V.drop (V.length - U.length):=(List.take_append_drop _ _).symm
    have t1:(V.take (V.length - U.length)).length=V.length - U.length:=by simp
    have t2:(V.drop (V.length - U.length)).length=U.length:=by simp; omega
    have hD:A++U++V++Q=A++U++V.take (V.length - U.length)++V.drop (V.length - U.length)++Q:=by
     rw [List.append_assoc (A++U) (V.take _),← hV]
    have hsw:=Jau A U (V.take (V.length - U.length)) (V.drop (V.length - U.length)) Q (by rw [← hD]; exact hL) t2.symm
    rw [← hD,t1] at hsw
    obtain ⟨A',U',V',Q',k1,k2,k3,k4,k5,k6⟩:=ih (V.drop (V.length - U.length)) (V.take (V.length - U.length)) A (U++Q) (by omega) (by omega) (by omega) (by omega) (by simp; omega)
    rw [t1,t2] at k1
    refine ⟨A',U',V',Q', ?_,k2,k3,k4, ?_, ?_⟩
    ·rw [Vt (s':=((U.length:Int),A++V.drop (V.length - U.length)++V.take (V.length - U.length)++(U++Q),((V.length - U.length:Nat):Int))) ?_]
     ·exact k1
     ·have e3:m - U.length=A.length:=by omega
      have e4:w64 ((w64 ((m:Int)+(V.length:Int))) - (U.length:Int))=((A.length+U.length+(V.length - U.length):Nat):Int):=by
       rw [Jtd (by omega) (by omega),Jdo (by omega) (by omega)]; omega
      simp only [Qw,en,Bool.not_false,cond_true,decide_eq_false (show ¬ (V.length:Int)<(U.length:Int) by omega),cond_false,Jdo (show m<4194304 by omega) (show U.length≤m by omega),e3,e4,hsw,Option.bind_some,Jdo (show V.length<4194304 by omega) (show U.length≤V.length by omega)]
      simp
    ·rw [k5,List.append_assoc A,← hV]; simp
    ·rw [k6]; simp; omega
theorem Jwz (A U V Q:List Jb) (hL:(A++U++V++Q).length≤1048576) (h1:0<U.length) (h2:0<V.length) :
  Qe (A++U++V++Q) (A.length:Int) ((A.length+U.length:Nat):Int) ((A.length+U.length+V.length:Nat):Int)=some (A++V++U++Q):=by
 unfold Qe
 have hlen:=hL
 simp only [List.length_append] at hlen
 obtain ⟨A',U',V',Q',k1,k2,k3,k4,k5,k6⟩:=Jr8 (A.length+U.length) (by omega) (U.length+V.length) U V A Q (Nat.le_refl _) h1 h2 rfl hL
 rw [Jdo (by omega) (by omega),Jdo (by omega) (by omega),show A.length+U.length - A.length=U.length by omega,show A.length+U.length+V.length - (A.length+U.length)=V.length by omega,k1]
 have hlen':(A'++U'++V'++Q').length≤1048576:=by rw [k6]; exact hL
 have hsw:=Jau A' U' [] V' Q' (by simpa using hlen') k2
 simp only [List.append_nil,List.length_nil,Nat.add_zero] at hsw
 rw [k4] at hsw
 simp only [onInl,Vn,Option.bind_some]
 rw [Jdo (by omega) (by omega),show A.length+U.length - U'.length=A'.length by omega,hsw,k5]
 rfl
/-! ### Search -/
theorem Jpl {β:Type} {step:Int×Int→Option ((Int×Int)⊕(Int⊕β))} (p:Nat→Prop) [DecidablePred p] (lo hi:Nat) (hmono:∀ h k,lo≤h→h≤k→k<hi→p k→p h)
  (hs:∀ i j:Nat,lo≤i→i<j→j≤hi→step ((i:Int),(j:Int))=some (.inl (if p ((i+j) / 2) then ((((i+j) / 2+1:Nat):Int),(j:Int)) else ((i:Int),(((i+j) / 2:Nat):Int)))))
  (he:∀ i:Nat,step ((i:Int),(i:Int))=some (.inr (.inl (i:Int)))):lo≤hi→∃ s:Nat,lo≤s∧s≤hi∧Km step ((lo:Int),(hi:Int))=some (.inl (s:Int))∧(∀ h,lo≤h→h<s→p h)∧∀ h,s≤h→h<hi→¬ p h:=by
 suffices ∀ n i j:Nat,j - i≤n→lo≤i→i≤j→j≤hi→(∀ h,lo≤h→h<i→p h)→(∀ h,j≤h→h<hi→¬ p h)→∃ s:Nat,lo≤s∧s≤hi∧Km step ((i:Int),(j:Int))=some (.inl (s:Int))∧(∀ h,lo≤h→h<s→p h)∧∀ h,s≤h→h<hi→¬ p h from
  fun hlh=>this (hi - lo) lo hi (Nat.le_refl _) (Nat.le_refl _) hlh (Nat.le_refl _) (fun h h1 h2=>by omega) (fun h h1 h2=>by omega)
 intro n
 induction n with
 | zero =>
  intro i j hn h1 h2 h3 h4 h5
  have:i=j:=by omega
  subst this
  exact ⟨i,h1,h3,Qu (he i),h4,h5⟩
 | succ n ih =>
  intro i j hn h1 h2 h3 h4 h5
  by_cases hij:i=j
  ·subst hij; exact ⟨i,h1,h3,Qu (he i),h4,h5⟩
  ·have hlt:i<j:=by omega
   by_cases hp:p ((i+j) / 2)
   ·obtain ⟨s,k1,k2,k3,k4,k5⟩:=ih ((i+j) / 2+1) j (by omega) (by omega) (by omega) h3 (fun h q1 q2=>hmono h _ q1 (by omega) (by omega) hp) h5
    exact ⟨s,k1,k2,by rw [Vt (hs i j h1 hlt h3),if_pos hp]; exact k3,k4,k5⟩
   ·obtain ⟨s,k1,k2,k3,k4,k5⟩:=ih i ((i+j) / 2) (by omega) h1 (by omega) (by omega) h4 (fun h q1 q2 q3=>hp (hmono _ h (by omega) q1 q2 q3))
    exact ⟨s,k1,k2,by rw [Vt (hs i j h1 hlt h3),if_neg hp]; exact k3,k4,k5⟩
end PM
/-
 PLAIN, SORT B: slices.SortStableFunc at linked balises: the merge of two sorted runs, and the whole sort of few balises.
-/
namespace PM
open Go Go.RowKit
theorem Kcf {i:Nat} (h:i<4194304) (h1:1≤i):w64 ((i:Int) - 1)=((i - 1:Nat):Int):=by rw [Va (by omega) (by omega)]; omega
theorem Lc {X:List Jb} (hX:X.Pairwise leL) {i j:Nat} {u v:Jb} (hij:i≤j) (hu:X[i]?=some u) (hv:X[j]?=some v):leL u v:=by
 obtain ⟨hi,rfl⟩:=List.getElem?_eq_some_iff.1 hu
 obtain ⟨hj,rfl⟩:=List.getElem?_eq_some_iff.1 hv
 by_cases e:i=j
 ·subst e; exact Jxe _
 ·exact List.pairwise_iff_getElem.1 hX i j hi hj (by omega)
theorem gL (P L R Q:List Jb) {i:Nat} (h:i<L.length):(P++L++R++Q)[P.length+i]?=L[i]?:=by
 rw [List.append_assoc,List.append_assoc,List.getElem?_append_right (by omega),Nat.add_sub_cancel_left,List.getElem?_append_left (by omega)]
theorem gR (P L R Q:List Jb) {i:Nat} (h:i<R.length):(P++L++R++Q)[P.length+L.length+i]?=R[i]?:=by
 rw [List.append_assoc (P++L),List.getElem?_append_right (by simp),show P.length+L.length+i - (P++L).length=i by simp,List.getElem?_append_left (by omega)]
/-! ### One element moves along a run -/
theorem Kdk (a0:List Jb) (hL:a0.length≤1048576) (x:Jb) (i:Nat):∀ (R A Q:List Jb),A.length+R.length+1=i→(A++x::(R++Q)).length=a0.length →
  Km (Uh a0 (i:Int)) ((A.length:Int),A++x::(R++Q))=some (.inl (A++R++x::Q)):=by
 intro R
 induction R with
 | nil =>
  intro A Q hi hlen
  have hb:A.length<1048577:=by simp at hlen; omega
  rw [Qu (r:=.inl (A++x::([]++Q))) (by
   simp only [Uh,← hi,List.length_nil,Nat.add_zero,Kbq hb,decide_eq_false (show ¬ ((A.length:Int)<(A.length:Int)) by omega),cond_false])]
  simp
 | cons y R ih =>
  intro A Q hi hlen
  simp only [List.length_cons] at hi
  have hlen1:(A++x::y::(R++Q)).length=a0.length:=by rw [← hlen]; simp
  have hl2:=hlen1
  simp only [List.length_append,List.length_cons] at hl2
  have g1:(A++x::y::(R++Q))[A.length+1]?=some y:=Jpf _ _ _ _
  have g0:(A++x::y::(R++Q))[A.length]?=some x:=Jg8 _ _ _
  have hl3:((A++x::y::(R++Q)).set A.length y).length=a0.length:=by rw [List.length_set]; exact hlen1
  have g2:((A++x::y::(R++Q)).set A.length y)[A.length+1]?=some y:=by rw [List.getElem?_set_ne (by omega)]; exact g1
  have:=ih (A++[y]) Q (by simp; omega) (by rw [← hlen]; simp)
  rw [Vt (s':=(((A++[y]).length:Int),(A++[y])++x::(R++Q))) ?_,this]
  ·simp
  ·simp only [Uh,Mb,Kcf (show i<4194304 by omega) (by omega),decide_eq_true (show (A.length:Int)<((i - 1:Nat):Int) by omega),cond_true,Jt6 (show A.length<1048577 by omega),xix (show A.length+1<a0.length by omega),xix (show A.length<a0.length by omega),List.cons_append,Option.bind_some,xld hlen1 g1,xld hlen1 g0,xld hl3 g2,Jvy]
   simp
theorem Kd1 (a0:List Jb) (hL:a0.length≤1048576) (x:Jb) (A:List Jb):∀ (n:Nat) (L Q:List Jb),L.length=n→(A++L++x::Q).length=a0.length →
  Km (Uf a0 (A.length:Int)) (((A.length+L.length:Nat):Int),A++L++x::Q)=some (.inl (A++x::(L++Q))):=by
 intro n
 induction n with
 | zero =>
  intro L Q hn hlen
  have:L=[]:=List.eq_nil_of_length_eq_zero hn
  subst this
  rw [Qu (r:=.inl (A++[]++x::Q)) (by
   simp only [Uf,List.length_nil,Nat.add_zero,decide_eq_false (show ¬ ((A.length:Int)<(A.length:Int)) by omega),cond_false])]
  simp
 | succ n ih =>
  intro L Q hn hlen
  obtain ⟨S,y,rfl⟩:∃ S y,L=S++[y]:=by
   rcases List.eq_nil_or_concat L with e|⟨S,y,e⟩
   ·subst e; cases hn
   ·exact ⟨S,y,by simpa using e⟩
  have hSn:S.length=n:=by simpa using hn
  have hD:A++(S++[y])++x::Q=(A++S)++y::x::Q:=by simp
  have hlen':((A++S)++y::x::Q).length=a0.length:=by rw [← hD]; exact hlen
  have hA:(A++S).length=A.length+S.length:=by simp
  have hb:A.length+S.length+1<a0.length:=by rw [← hlen']; simp; omega
  have g1:((A++S)++y::x::Q)[A.length+S.length+1]?=some x:=by rw [← hA]; exact Jpf _ _ _ _
  have g0:((A++S)++y::x::Q)[A.length+S.length]?=some y:=by rw [← hA]; exact Jg8 _ _ _
  have hj:A.length+(S++[y]).length=A.length+S.length+1:=by simp; omega
  have hl2:(((A++S)++y::x::Q).set (A.length+S.length+1) y).length=a0.length:=by rw [List.length_set]; exact hlen'
  have g2:(((A++S)++y::x::Q).set (A.length+S.length+1) y)[A.length+S.length]?=some y:=by
   rw [List.getElem?_set_ne (by omega)]; exact g0
  have hsw:=Jr3 (A++S) y x Q
  rw [hA] at hsw
  have:=ih S (y::Q) hSn (by rw [← hlen']; simp)
  rw [hD,hj,Vt (s':=(((A.length+S.length:Nat):Int),A++S++x::y::Q)) ?_,this]
  ·simp
  ·simp only [Uf,Mb,decide_eq_true (show (A.length:Int)<((A.length+S.length+1:Nat):Int) by omega),cond_true,Kbq (show A.length+S.length<1048577 by omega),xix hb,xix (show A.length+S.length<a0.length by omega),Option.bind_some,xld hlen' g1,xld hlen' g0,xld hl2 g2,hsw]
/-! ### The merge -/
theorem Jzj (n:Nat):Ks (n+1)=Kc (Ks n):=rfl
theorem Jdb {α:Type} {L:List α} {k:Nat} {x:α} (h:x∈L.take k):∃ i,i<k∧L[i]?=some x:=by
 obtain ⟨i,hi⟩:=List.getElem?_of_mem h
 rw [List.getElem?_take] at hi
 split at hi
 ·exact ⟨i,by assumption,hi⟩
 ·cases hi
theorem Jdi {α:Type} {L:List α} {k:Nat} {x:α} (h:x∈L.drop k):∃ i,k≤i∧L[i]?=some x:=by
 obtain ⟨i,hi⟩:=List.getElem?_of_mem h
 rw [List.getElem?_drop] at hi
 exact ⟨k+i,by omega,hi⟩
theorem Kc4 (rc:List Jb→Int→Int→Int→Option (List Jb)) (P R Q:List Jb) (x:Jb) (hR:R.Pairwise leL) (hL:(P++[x]++R++Q).length≤1048576) :
  ∃ M,Kc rc (P++[x]++R++Q) (P.length:Int) ((P.length+1:Nat):Int) ((P.length+1+R.length:Nat):Int)=some (P++M++Q)∧M.Perm ([x]++R)∧M.Pairwise leL:=by
 have hlen:=hL
 simp only [List.length_append,List.length_cons,List.length_nil,Nat.zero_add] at hlen
 have gx:(P++[x]++R++Q)[P.length]?=some x:=by simp
 haveI:DecidablePred fun h:Nat=>∃ y,(P++[x]++R++Q)[h]?=some y∧ltL y x:=fun _=>Classical.propDecidable _
 have hN:(P++[x]++R++Q).length=P.length+1+R.length+Q.length:=by simp; omega
 obtain ⟨s,s1,s2,s3,s4,s5⟩:=Jpl (step:=Ui (P++[x]++R++Q) (P.length:Int)) (fun h:Nat=>∃ y,(P++[x]++R++Q)[h]?=some y∧ltL y x) (P.length+1) (P.length+1+R.length)
  (fun h k h1 h2 h3 ⟨y,hy,hyx⟩=>by
   have e1:=gR P [x] R Q (i:=h - (P.length+1)) (by omega)
   have e2:=gR P [x] R Q (i:=k - (P.length+1)) (by omega)
   simp only [List.length_cons,List.length_nil,Nat.zero_add] at e1 e2
   rw [show P.length+1+(h - (P.length+1))=h by omega] at e1
   rw [show P.length+1+(k - (P.length+1))=k by omega,hy] at e2
   have hz:R[h - (P.length+1)]?=some R[h - (P.length+1)]:=List.getElem?_eq_getElem (by omega)
   exact ⟨_,e1.trans hz,Jq3 (Lc hR (by omega) hz e2.symm) hyx⟩)
  (fun i j h1 h2 h3=>by
   have hy:(P++[x]++R++Q)[(i+j) / 2]?=some (P++[x]++R++Q)[(i+j) / 2]:=List.getElem?_eq_getElem (by omega)
   obtain ⟨r,hr,hd⟩:=Jou (P++[x]++R++Q)[(i+j) / 2] x
   simp only [Ui,Mb,decide_eq_true (show (i:Int)<(j:Int) by omega),cond_true,Jxb (show i<1048577 by omega) (show j<1048577 by omega),xix (show (i+j) / 2<(P++[x]++R++Q).length by omega),xix (show P.length<(P++[x]++R++Q).length by omega),Option.bind_some,xld rfl hy,xld rfl gx,hr,hd,Jt6 (show (i+j) / 2<1048577 by omega)]
   by_cases hlt:ltL (P++[x]++R++Q)[(i+j) / 2] x
   ·rw [decide_eq_true hlt,cond_true,if_pos ⟨_,hy,hlt⟩]
   ·rw [decide_eq_false hlt,cond_false,if_neg (fun ⟨y,hy',h⟩=>by rw [hy] at hy'; cases hy'; exact hlt h)])
  (fun i=>by simp [Ui]) (by omega)
 have hRs:R=R.take (s - (P.length+1))++R.drop (s - (P.length+1)):=(List.take_append_drop _ _).symm
 have t1:(R.take (s - (P.length+1))).length=s - (P.length+1):=by simp; omega
 have hsh:=Kdk (P++[x]++R++Q) hL x s (R.take (s - (P.length+1))) P (R.drop (s - (P.length+1))++Q) (by rw [t1]; omega) (by rw [← List.append_assoc,← hRs]; simp)
 rw [← List.append_assoc (R.take _),← hRs] at hsh
 refine ⟨R.take (s - (P.length+1))++x::R.drop (s - (P.length+1)), ?_, ?_, ?_⟩
 ·unfold Kc
  rw [Jdo (show P.length+1<4194304 by omega) (by omega),decide_eq_true (show ((P.length+1 - P.length:Nat):Int)=1 by omega),cond_true,s3]
  simp only [onInl,Vn,Option.bind_some]
  rw [show P++[x]++R++Q=P++x::(R++Q) by simp] at hsh ⊢
  rw [hsh]
  simp [Vn]
 ·refine List.perm_middle.trans ?_
  rw [← hRs]; rfl
 ·have hR':=hR
  rw [hRs,List.pairwise_append] at hR'
  obtain ⟨q1,q2,q3⟩:=hR'
  have at_:∀ {i:Nat} {y:Jb},R[i]?=some y→(P++[x]++R++Q)[P.length+1+i]?=some y:=fun {i} {y} hy=>by
   have:=gR P [x] R Q (i:=i) (List.getElem?_eq_some_iff.1 hy).1
   simp only [List.length_cons,List.length_nil,Nat.zero_add] at this
   rw [this,hy]
  rw [List.pairwise_append,List.pairwise_cons]
  refine ⟨q1,⟨fun y hy=>?_,q2⟩,fun y hy z hz=>?_⟩
  ·obtain ⟨i,i1,i2⟩:=Jdi hy
   have hil:=(List.getElem?_eq_some_iff.1 i2).1
   exact fun hlt=>s5 (P.length+1+i) (by omega) (by omega) ⟨y,at_ i2,hlt⟩
  ·rcases List.mem_cons.1 hz with rfl|hz
   ·obtain ⟨i,i1,i2⟩:=Jdb hy
    obtain ⟨y',hy',hlt⟩:=s4 (P.length+1+i) (by omega) (by omega)
    rw [at_ i2] at hy'; cases hy'
    exact Xb hlt
   ·exact q3 y hy z hz
theorem Kdv (rc:List Jb→Int→Int→Int→Option (List Jb)) (P L Q:List Jb) (x:Jb) (hLs:L.Pairwise leL) (hl1:L.length≠1) (hL:(P++L++[x]++Q).length≤1048576) :
  ∃ M,Kc rc (P++L++[x]++Q) (P.length:Int) ((P.length+L.length:Nat):Int) ((P.length+L.length+1:Nat):Int)=some (P++M++Q)∧M.Perm (L++[x])∧M.Pairwise leL:=by
 have hlen:=hL
 simp only [List.length_append,List.length_cons,List.length_nil,Nat.zero_add] at hlen
 have gx:(P++L++[x]++Q)[P.length+L.length]?=some x:=by simp
 haveI:DecidablePred fun h:Nat=>∃ y,(P++L++[x]++Q)[h]?=some y∧leL y x:=fun _=>Classical.propDecidable _
 have hN:(P++L++[x]++Q).length=P.length+L.length+1+Q.length:=by simp; omega
 obtain ⟨s,s1,s2,s3,s4,s5⟩:=Jpl (step:=Ug (P++L++[x]++Q) ((P.length+L.length:Nat):Int)) (fun h:Nat=>∃ y,(P++L++[x]++Q)[h]?=some y∧leL y x) P.length (P.length+L.length)
  (fun h k h1 h2 h3 ⟨y,hy,hyx⟩=>by
   have e1:=gL P L [x] Q (i:=h - P.length) (by omega)
   have e2:=gL P L [x] Q (i:=k - P.length) (by omega)
   rw [show P.length+(h - P.length)=h by omega] at e1
   rw [show P.length+(k - P.length)=k by omega,hy] at e2
   have hz:L[h - P.length]?=some L[h - P.length]:=List.getElem?_eq_getElem (by omega)
   exact ⟨_,e1.trans hz,Iy (Lc hLs (by omega) hz e2.symm) hyx⟩)
  (fun i j h1 h2 h3=>by
   have hy:(P++L++[x]++Q)[(i+j) / 2]?=some (P++L++[x]++Q)[(i+j) / 2]:=List.getElem?_eq_getElem (by omega)
   obtain ⟨r,hr,hd⟩:=Jou x (P++L++[x]++Q)[(i+j) / 2]
   simp only [Ug,Mb,decide_eq_true (show (i:Int)<(j:Int) by omega),cond_true,Jxb (show i<1048577 by omega) (show j<1048577 by omega),xix (show (i+j) / 2<(P++L++[x]++Q).length by omega),xix (show P.length+L.length<(P++L++[x]++Q).length by omega),Option.bind_some,xld rfl hy,xld rfl gx,hr,hd,Jt6 (show (i+j) / 2<1048577 by omega)]
   by_cases hlt:ltL x (P++L++[x]++Q)[(i+j) / 2]
   ·rw [decide_eq_true hlt,Bool.not_true,cond_false,if_neg (fun ⟨y,hy',h⟩=>by rw [hy] at hy'; cases hy'; exact h hlt)]
   ·rw [decide_eq_false hlt,Bool.not_false,cond_true,if_pos ⟨_,hy,hlt⟩])
  (fun i=>by simp [Ug]) (by omega)
 have hRs:L=L.take (s - P.length)++L.drop (s - P.length):=(List.take_append_drop _ _).symm
 have t1:(P++L.take (s - P.length)).length=s:=by simp; omega
 have t2:(L.drop (s - P.length)).length=P.length+L.length - s:=by simp; omega
 have hsh:=Kd1 (P++L++[x]++Q) hL x (P++L.take (s - P.length)) _ (L.drop (s - P.length)) Q rfl (by rw [List.append_assoc P,← hRs]; simp)
 rw [t1,t2,show s+(P.length+L.length - s)=P.length+L.length by omega,List.append_assoc P (L.take _) (L.drop _),← hRs] at hsh
 refine ⟨L.take (s - P.length)++x::L.drop (s - P.length), ?_, ?_, ?_⟩
 ·unfold Kc
  rw [Jdo (show P.length+L.length<4194304 by omega) (by omega),decide_eq_false (show ¬ (((P.length+L.length - P.length:Nat):Int)=1) by omega),cond_false,
   Jdo (show P.length+L.length+1<4194304 by omega) (by omega),decide_eq_true (show ((P.length+L.length+1 - (P.length+L.length):Nat):Int)=1 by omega),cond_true,s3]
  simp only [onInl,Vn,Option.bind_some]
  rw [show P++L++[x]++Q=P++L++x::Q by simp] at hsh ⊢
  rw [hsh]
  simp [Vn]
 ·refine List.perm_middle.trans ?_
  rw [← hRs]
  have:=@List.perm_append_comm _ [x] L
  simpa using this
 ·have hR':=hLs
  rw [hRs,List.pairwise_append] at hR'
  obtain ⟨q1,q2,q3⟩:=hR'
  have at_:∀ {i:Nat} {y:Jb},L[i]?=some y→(P++L++[x]++Q)[P.length+i]?=some y:=fun {i} {y} hy=>by
   rw [gL P L [x] Q (i:=i) (List.getElem?_eq_some_iff.1 hy).1,hy]
  rw [List.pairwise_append,List.pairwise_cons]
  refine ⟨q1,⟨fun y hy=>?_,q2⟩,fun y hy z hz=>?_⟩
  ·obtain ⟨i,i1,i2⟩:=Jdi hy
   have hil:=(List.getElem?_eq_some_iff.1 i2).1
   have:=s5 (P.length+i) (by omega) (by omega)
   exact Xb (Classical.not_not.1 fun hlt=>this ⟨y,at_ i2,hlt⟩)
  ·rcases List.mem_cons.1 hz with rfl|hz
   ·obtain ⟨i,i1,i2⟩:=Jdb hy
    obtain ⟨y',hy',hlt⟩:=s4 (P.length+i) (by omega) (by omega)
    rw [at_ i2] at hy'; cases hy'
    exact hlt
   ·exact q3 y hy z hz
theorem Jop (D:List Jb) (hD:D.length≤1048576) (a m b:Nat) (h1:a≤m) (h2:m≤b) (h3:b≤D.length) (hm0:0<m)
  (hLs:∀ h k y z,a≤h→h≤k→k<m→D[h]?=some y→D[k]?=some z→leL y z) (hRs:∀ h k y z,m≤h→h≤k→k<b→D[h]?=some y→D[k]?=some z→leL y z)
  (st0 r0:Nat) (h4:a≤st0) (h5:st0≤r0) (h6:r0≤m) (hp:∀ c,st0≤c→c<r0→m≤(a+b) / 2+m - 1 - c∧(a+b) / 2+m - 1 - c<b) :
  ∃ s,st0≤s∧s≤r0∧Km (Qk D (a:Int) (m:Int) (b:Int)) ((st0:Int),(r0:Int))=some (.inl (s:Int))∧(∀ c,st0≤c→c<s→∃ y z,D[(a+b) / 2+m - 1 - c]?=some y∧D[c]?=some z∧leL z y) ∧
   ∀ c,s≤c→c<r0→∀ y z,D[(a+b) / 2+m - 1 - c]?=some y→D[c]?=some z→ltL y z:=by
 haveI:DecidablePred fun c:Nat=>∃ y z,D[(a+b) / 2+m - 1 - c]?=some y∧D[c]?=some z∧leL z y:=fun _=>Classical.propDecidable _
 have gt:∀ i,i<D.length→∃ y,D[i]?=some y:=fun i hi=>⟨D[i],List.getElem?_eq_getElem hi⟩
 obtain ⟨s,s1,s2,s3,s4,s5⟩:=Jpl (step:=Qk D (a:Int) (m:Int) (b:Int)) (fun c:Nat=>∃ y z,D[(a+b) / 2+m - 1 - c]?=some y∧D[c]?=some z∧leL z y) st0 r0
  (fun h k q1 q2 q3 ⟨y,z,hy,hz,hzy⟩=>by
   have p1:=hp h q1 (by omega); have p2:=hp k (by omega) q3
   obtain ⟨y',hy'⟩:=gt ((a+b) / 2+m - 1 - h) (by omega)
   obtain ⟨z',hz'⟩:=gt h (by omega)
   exact ⟨y',z',hy',hz',Iy (hLs h k z' z (by omega) q2 (by omega) hz' hz) (Iy hzy (hRs _ _ y y' p2.1 (by omega) p1.2 hy hy'))⟩)
  (fun i j q1 q2 q3=>by
   have p1:=hp ((i+j) / 2) (by omega) (by omega)
   obtain ⟨y,hy⟩:=gt ((a+b) / 2+m - 1 - (i+j) / 2) (by omega)
   obtain ⟨z,hz⟩:=gt ((i+j) / 2) (by omega)
   obtain ⟨r,hr,hd⟩:=Jou y z
   simp only [Qk,Mb,decide_eq_true (show (i:Int)<(j:Int) by omega),cond_true,Jxb (show i<1048577 by omega) (show j<1048577 by omega),Jxb (show a<1048577 by omega) (show b<1048577 by omega),Jtd (show (a+b) / 2<1048577 by omega) (show m<1048577 by omega),
    Kcf (show (a+b) / 2+m<4194304 by omega) (show 1≤(a+b) / 2+m by omega),Jdo (show (a+b) / 2+m - 1<4194304 by omega) (show (i+j) / 2≤(a+b) / 2+m - 1 by omega),xix (show (a+b) / 2+m - 1 - (i+j) / 2<D.length by omega),xix (show (i+j) / 2<D.length by omega),Option.bind_some,xld rfl hy,xld rfl hz,hr,hd,Jt6 (show (i+j) / 2<1048577 by omega)]
   by_cases hlt:ltL y z
   ·rw [decide_eq_true hlt,Bool.not_true,cond_false,if_neg (fun ⟨y',z',hy',hz',h⟩=>by rw [hy] at hy'; rw [hz] at hz'; cases hy'; cases hz'; exact h hlt)]
   ·rw [decide_eq_false hlt,Bool.not_false,cond_true,if_pos ⟨y,z,hy,hz,hlt⟩])
  (fun i=>by simp [Qk]) h5
 exact ⟨s,s1,s2,s3,s4,fun c q1 q2 y z hy hz=>Classical.not_not.1 fun hn=>s5 c q1 q2 ⟨y,z,hy,hz,hn⟩⟩
theorem Kec (rc:List Jb→Int→Int→Int→Option (List Jb)) (P L R Q:List Jb) (a m b:Nat) (ha:a=P.length) (hm:m=a+L.length) (hb:b=m+R.length) (hL2:2≤L.length) (hR2:2≤R.length) (hLs:L.Pairwise leL) (hRs:R.Pairwise leL) (hL:(P++L++R++Q).length≤1048576)
  (ih:∀ P' L' R' Q':List Jb,L'.length+R'.length<L.length+R.length→0<L'.length→0<R'.length→L'.Pairwise leL→R'.Pairwise leL→(P'++L'++R'++Q').length≤1048576 →
   ∃ M,rc (P'++L'++R'++Q') (P'.length:Int) ((P'.length+L'.length:Nat):Int) ((P'.length+L'.length+R'.length:Nat):Int)=some (P'++M++Q')∧M.Perm (L'++R')∧M.Pairwise leL) :
  ∃ M,Kc rc (P++L++R++Q) (a:Int) (m:Int) (b:Int)=some (P++M++Q)∧M.Perm (L++R)∧M.Pairwise leL:=by
 have hlen:=hL
 simp only [List.length_append] at hlen
 have atL:∀ i,i<L.length→(P++L++R++Q)[a+i]?=L[i]?:=fun i hi=>by rw [ha]; exact gL P L R Q hi
 have atR:∀ i,i<R.length→(P++L++R++Q)[m+i]?=R[i]?:=fun i hi=>by rw [hm,ha]; exact gR P L R Q hi
 have hDl:(P++L++R++Q).length=b+Q.length:=by simp; omega
 have sL:∀ h k y z,a≤h→h≤k→k<m→(P++L++R++Q)[h]?=some y→(P++L++R++Q)[k]?=some z→leL y z:=fun h k y z q1 q2 q3 hy hz=>by
  have e1:=atL (h - a) (by omega); have e2:=atL (k - a) (by omega)
  rw [show a+(h - a)=h by omega,hy] at e1; rw [show a+(k - a)=k by omega,hz] at e2
  exact Lc hLs (by omega) e1.symm e2.symm
 have sR:∀ h k y z,m≤h→h≤k→k<b→(P++L++R++Q)[h]?=some y→(P++L++R++Q)[k]?=some z→leL y z:=fun h k y z q1 q2 q3 hy hz=>by
  have e1:=atR (h - m) (by omega); have e2:=atR (k - m) (by omega)
  rw [show m+(h - m)=h by omega,hy] at e1; rw [show m+(k - m)=k by omega,hz] at e2
  exact Lc hRs (by omega) e1.symm e2.symm
 -- the start of the search, and its end
 obtain ⟨st0,r0,hst,s,g0,g1,g2,g3,g4,g5,g6⟩:∃ st0 r0:Nat,(bif decide ((((a+b) / 2:Nat):Int)<(m:Int)) then some (.inl (w64 ((w64 ((((a+b) / 2:Nat):Int)+(m:Int))) - (b:Int)),(((a+b) / 2:Nat):Int))) else some (.inl ((a:Int),(m:Int))):Option ((Int×Int)⊕List Jb))=some (.inl ((st0:Int),(r0:Int))) ∧
   ∃ s:Nat,Km (Qk (P++L++R++Q) (a:Int) (m:Int) (b:Int)) ((st0:Int),(r0:Int))=some (.inl (s:Int))∧a≤s∧s≤m∧s≤(a+b) / 2∧(a+b) / 2+m - s≤b ∧
    (∀ y z,a<s→(a+b) / 2+m - s<b→(P++L++R++Q)[s - 1]?=some y→(P++L++R++Q)[(a+b) / 2+m - s]?=some z→leL y z) ∧
    (∀ y z,s<m→m<(a+b) / 2+m - s→(P++L++R++Q)[(a+b) / 2+m - s - 1]?=some y→(P++L++R++Q)[s]?=some z→ltL y z):=by
  by_cases hc:(a+b) / 2<m
  ·obtain ⟨s,s1,s2,s3,s4,s5⟩:=Jop (P++L++R++Q) hL a m b (by omega) (by omega) (by omega) (by omega) sL sR ((a+b) / 2+m - b) ((a+b) / 2) (by omega) (by omega) (by omega) (fun c q1 q2=>by omega)
   refine ⟨(a+b) / 2+m - b,(a+b) / 2, ?_,s,s3,by omega,by omega,by omega,by omega,fun y z q1 q2 hy hz=>?_,fun y z q1 q2 hy hz=>?_⟩
   ·rw [decide_eq_true (show (((a+b) / 2:Nat):Int)<(m:Int) by omega),cond_true,Jtd (by omega) (by omega),Jdo (by omega) (by omega)]
   ·obtain ⟨y',z',k1,k2,k3⟩:=s4 (s - 1) (by omega) (by omega)
    rw [show (a+b) / 2+m - 1 - (s - 1)=(a+b) / 2+m - s by omega,hz] at k1
    rw [hy] at k2; cases k1; cases k2; exact k3
   ·exact s5 s (Nat.le_refl _) (by omega) y z (by rw [show (a+b) / 2+m - 1 - s=(a+b) / 2+m - s - 1 by omega]; exact hy) hz
  ·obtain ⟨s,s1,s2,s3,s4,s5⟩:=Jop (P++L++R++Q) hL a m b (by omega) (by omega) (by omega) (by omega) sL sR a m (by omega) (by omega) (by omega) (fun c q1 q2=>by omega)
   refine ⟨a,m, ?_,s,s3,by omega,by omega,by omega,by omega,fun y z q1 q2 hy hz=>?_,fun y z q1 q2 hy hz=>?_⟩
   ·rw [decide_eq_false (show ¬ (((a+b) / 2:Nat):Int)<(m:Int) by omega),cond_false]
   ·obtain ⟨y',z',k1,k2,k3⟩:=s4 (s - 1) (by omega) (by omega)
    rw [show (a+b) / 2+m - 1 - (s - 1)=(a+b) / 2+m - s by omega,hz] at k1
    rw [hy] at k2; cases k1; cases k2; exact k3
   ·exact s5 s (Nat.le_refl _) (by omega) y z (by rw [show (a+b) / 2+m - 1 - s=(a+b) / 2+m - s - 1 by omega]; exact hy) hz
 obtain ⟨e,he⟩:∃ e,e=(a+b) / 2+m - s:=⟨_,rfl⟩
 rw [← he] at g4 g5 g6
 -- the four parts
 have hLp:L=L.take (s - a)++L.drop (s - a):=(List.take_append_drop _ _).symm
 have hRp:R=R.take (e - m)++R.drop (e - m):=(List.take_append_drop _ _).symm
 obtain ⟨L1,hL1⟩:∃ L1,L1=L.take (s - a):=⟨_,rfl⟩
 obtain ⟨L2,hL2'⟩:∃ L2,L2=L.drop (s - a):=⟨_,rfl⟩
 obtain ⟨R1,hR1⟩:∃ R1,R1=R.take (e - m):=⟨_,rfl⟩
 obtain ⟨R2,hR2'⟩:∃ R2,R2=R.drop (e - m):=⟨_,rfl⟩
 have l1:L1.length=s - a:=by rw [hL1]; simp; omega
 have l2:L2.length=m - s:=by rw [hL2']; simp; omega
 have r1:R1.length=e - m:=by rw [hR1]; simp; omega
 have r2:R2.length=b - e:=by rw [hR2']; simp; omega
 rw [← hL1,← hL2'] at hLp
 rw [← hR1,← hR2'] at hRp
 have mL1:∀ x∈L1,∃ i,i<s - a∧L[i]?=some x:=fun x hx=>Jdb (hL1▸hx)
 have mL2:∀ x∈L2,∃ i,s - a≤i∧L[i]?=some x:=fun x hx=>Jdi (hL2'▸hx)
 have mR1:∀ x∈R1,∃ i,i<e - m∧R[i]?=some x:=fun x hx=>Jdb (hR1▸hx)
 have mR2:∀ x∈R2,∃ i,e - m≤i∧R[i]?=some x:=fun x hx=>Jdi (hR2'▸hx)
 have pL:=hLs; rw [hLp,List.pairwise_append] at pL
 have pR:=hRs; rw [hRp,List.pairwise_append] at pR
 have hQl:Q.length≤1048576 - b:=by omega
 -- everything in the left half is before everything in the right half
 have cross:∀ x,(x∈L1∨x∈R1)→∀ y,(y∈L2∨y∈R2)→leL x y:=by
  intro x hx y hy
  rcases hx with hx|hx <;> rcases hy with hy|hy
  ·exact pL.2.2 x hx y hy
  ·obtain ⟨i,i1,i2⟩:=mL1 x hx
   obtain ⟨j,j1,j2⟩:=mR2 y hy
   have hjl:=(List.getElem?_eq_some_iff.1 j2).1
   have u1:L[s - 1 - a]?=some L[s - 1 - a]:=List.getElem?_eq_getElem (by omega)
   have u2:R[e - m]?=some R[e - m]:=List.getElem?_eq_getElem (by omega)
   have k1:=atL (s - 1 - a) (by omega); have k2:=atR (e - m) (by omega)
   rw [show a+(s - 1 - a)=s - 1 by omega,u1] at k1
   rw [show m+(e - m)=e by omega,u2] at k2
   exact Iy (Lc hLs (by omega) i2 u1) (Iy (g5 _ _ (by omega) (by omega) k1 k2) (Lc hRs j1 u2 j2))
  ·obtain ⟨i,i1,i2⟩:=mR1 x hx
   obtain ⟨j,j1,j2⟩:=mL2 y hy
   have hjl:=(List.getElem?_eq_some_iff.1 j2).1
   have u1:R[e - 1 - m]?=some R[e - 1 - m]:=List.getElem?_eq_getElem (by omega)
   have u2:L[s - a]?=some L[s - a]:=List.getElem?_eq_getElem (by omega)
   have k1:=atR (e - 1 - m) (by omega); have k2:=atL (s - a) (by omega)
   rw [show m+(e - 1 - m)=e - 1 by omega,u1] at k1
   rw [show a+(s - a)=s by omega,u2] at k2
   exact Iy (Lc hRs (by omega) i2 u1) (Iy (Xb (g6 _ _ (by omega) (by omega) k1 k2)) (Lc hLs j1 u2 j2))
  ·exact pR.2.2 x hx y hy
 -- the left half
 obtain ⟨M1,m1,m2,m3⟩:∃ M1,(bif (decide ((a:Int)<(s:Int))&&decide ((s:Int)<(((a+b) / 2:Nat):Int))) then ((rc (P++L1++R1++(L2++R2++Q)) (a:Int) (s:Int) (((a+b) / 2:Nat):Int)).bind fun r=>(some (.inl r):Option (List Jb⊕List Jb))) else some (.inl (P++L1++R1++(L2++R2++Q))))=some (.inl (P++M1++(L2++R2++Q)))∧M1.Perm (L1++R1)∧M1.Pairwise leL:=by
  by_cases hc:a<s∧s<(a+b) / 2
  ·obtain ⟨M,k1,k2,k3⟩:=ih P L1 R1 (L2++R2++Q) (by omega) (by omega) (by omega) pL.1 pR.1 (by simp; omega)
   rw [← ha,l1,r1,show a+(s - a)=s by omega,show s+(e - m)=(a+b) / 2 by omega] at k1
   refine ⟨M, ?_,k2,k3⟩
   rw [decide_eq_true (show (a:Int)<(s:Int) by omega),decide_eq_true (show (s:Int)<(((a+b) / 2:Nat):Int) by omega),k1]
   rfl
  ·refine ⟨L1++R1, ?_,List.Perm.refl _, ?_⟩
   ·have:(decide ((a:Int)<(s:Int))&&decide ((s:Int)<(((a+b) / 2:Nat):Int)))=false:=by
     rw [Bool.and_eq_false_iff,decide_eq_false_iff_not,decide_eq_false_iff_not]; omega
    rw [this,cond_false,List.append_assoc P]
   ·rw [List.pairwise_append]
    refine ⟨pL.1,pR.1,fun x hx y hy=>?_⟩
    have:=List.length_pos_of_mem hx; have:=List.length_pos_of_mem hy
    omega
 have hM1:M1.length=(a+b) / 2 - a:=by rw [m2.length_eq]; simp; omega
 -- the right half
 obtain ⟨M2,n1,n2,n3⟩:∃ M2,(bif (decide ((((a+b) / 2:Nat):Int)<(e:Int))&&decide ((e:Int)<(b:Int))) then ((rc (P++M1++(L2++R2++Q)) (((a+b) / 2:Nat):Int) (e:Int) (b:Int)).bind fun r=>some r) else some (P++M1++(L2++R2++Q)))=some (P++(M1++M2)++Q)∧M2.Perm (L2++R2)∧M2.Pairwise leL:=by
  by_cases hc:(a+b) / 2<e∧e<b
  ·obtain ⟨M,k1,k2,k3⟩:=ih (P++M1) L2 R2 Q (by omega) (by omega) (by omega) pL.2.1 pR.2.1 (by simp; omega)
   rw [show (P++M1).length=(a+b) / 2 by simp; omega,l2,r2,show (a+b) / 2+(m - s)=e by omega,show e+(b - e)=b by omega] at k1
   refine ⟨M, ?_,k2,k3⟩
   rw [decide_eq_true (show (((a+b) / 2:Nat):Int)<(e:Int) by omega),decide_eq_true (show (e:Int)<(b:Int) by omega),show P++M1++(L2++R2++Q)=P++M1++L2++R2++Q by simp,k1]
   simp
  ·refine ⟨L2++R2, ?_,List.Perm.refl _, ?_⟩
   ·have:(decide ((((a+b) / 2:Nat):Int)<(e:Int))&&decide ((e:Int)<(b:Int)))=false:=by
     rw [Bool.and_eq_false_iff,decide_eq_false_iff_not,decide_eq_false_iff_not]; omega
    rw [this,cond_false]
    simp
   ·rw [List.pairwise_append]
    refine ⟨pL.2.1,pR.2.1,fun x hx y hy=>?_⟩
    have:=List.length_pos_of_mem hx; have:=List.length_pos_of_mem hy
    omega
 refine ⟨M1++M2, ?_, ?_, ?_⟩
 ·unfold Kc
  rw [Jdo (show m<4194304 by omega) (by omega),decide_eq_false (show ¬ (((m - a:Nat):Int)=1) by omega),cond_false,Jdo (show b<4194304 by omega) (by omega),decide_eq_false (show ¬ (((b - m:Nat):Int)=1) by omega),cond_false]
  simp only [Jxb (show a<1048577 by omega) (show b<1048577 by omega)]
  rw [hst]
  simp only [onInl,Vn,Option.bind_some]
  rw [g0]
  simp only [onInl,Vn,Option.bind_some,Jtd (show (a+b) / 2<1048577 by omega) (show m<1048577 by omega),Jdo (show (a+b) / 2+m<4194304 by omega) (show s≤(a+b) / 2+m by omega),← he]
  have hrot:(bif (decide ((s:Int)<(m:Int))&&decide ((m:Int)<(e:Int))) then ((Qe (P++L++R++Q) (s:Int) (m:Int) (e:Int)).bind fun r=>(some (.inl r):Option (List Jb⊕List Jb))) else some (.inl (P++L++R++Q)))=some (.inl (P++L1++R1++(L2++R2++Q))):=by
   have hD:P++L++R++Q=(P++L1)++L2++R1++(R2++Q):=by
    rw [hLp,hRp]; simp
   by_cases hc:s<m∧m<e
   ·have:=Jwz (P++L1) L2 R1 (R2++Q) (by rw [← hD]; exact hL) (by omega) (by omega)
    rw [← hD,show (P++L1).length=s by simp; omega,l2,r1,show s+(m - s)=m by omega,show m+(e - m)=e by omega] at this
    rw [decide_eq_true (show (s:Int)<(m:Int) by omega),decide_eq_true (show (m:Int)<(e:Int) by omega),this]
    simp
   ·have:(decide ((s:Int)<(m:Int))&&decide ((m:Int)<(e:Int)))=false:=by
     rw [Bool.and_eq_false_iff,decide_eq_false_iff_not,decide_eq_false_iff_not]; omega
    rw [this,cond_false,hD]
    by_cases hs:s<m
    ·have:R1=[]:=List.eq_nil_of_length_eq_zero (by omega)
     rw [this]; simp
    ·have:L2=[]:=List.eq_nil_of_length_eq_zero (by omega)
     rw [this]; simp
  rw [hrot]
  simp only [onInl,Vn,Option.bind_some]
  rw [m1]
  simp only [onInl,Vn,Option.bind_some]
  exact n1
 ·have h1:(M1++M2).Perm ((L1++R1)++(L2++R2)):=m2.append n2
  refine h1.trans ?_
  rw [hLp,hRp]
  have h2:(R1++(L2++R2)).Perm (L2++(R1++R2)):=by
   have:=(@List.perm_append_comm _ R1 L2).append_right R2
   simpa using this
  have:=h2.append_left L1
  simpa using this
 ·rw [List.pairwise_append]
  refine ⟨m3,n3,fun x hx y hy=>cross x ?_ y ?_⟩
  ·exact List.mem_append.1 (m2.subset hx)
  ·exact List.mem_append.1 (n2.subset hy)
theorem Jtt : ∀ (n:Nat) (P L R Q:List Jb),L.length+R.length≤n→0<L.length→0<R.length→L.Pairwise leL→R.Pairwise leL→(P++L++R++Q).length≤1048576 →
  ∃ M,Ks n (P++L++R++Q) (P.length:Int) ((P.length+L.length:Nat):Int) ((P.length+L.length+R.length:Nat):Int)=some (P++M++Q)∧M.Perm (L++R)∧M.Pairwise leL:=by
 intro n
 induction n with
 | zero=>intro P L R Q h h1 h2; omega
 | succ n ih =>
  intro P L R Q h h1 h2 hLs hRs hL
  rw [Jzj]
  by_cases c1:L.length=1
  ·obtain ⟨x,rfl⟩:=List.length_eq_one_iff.1 c1
   exact Kc4 _ P R Q x hRs hL
  ·by_cases c2:R.length=1
   ·obtain ⟨x,rfl⟩:=List.length_eq_one_iff.1 c2
    exact Kdv _ P L Q x hLs c1 hL
   ·exact Kec _ P L R Q _ _ _ rfl rfl rfl (by omega) (by omega) hLs hRs hL (fun P' L' R' Q' q=>ih P' L' R' Q' (by omega))
theorem Jsz (P L R Q:List Jb) (h1:0<L.length) (h2:0<R.length) (hLs:L.Pairwise leL) (hRs:R.Pairwise leL) (hL:(P++L++R++Q).length≤1048576) :
  ∃ M,Qr (P++L++R++Q) (P.length:Int) ((P.length+L.length:Nat):Int) ((P.length+L.length+R.length:Nat):Int)=some (P++M++Q)∧M.Perm (L++R)∧M.Pairwise leL:=by
 have:=Jtt (Nl+1) P L R Q (by simp only [List.length_append,Nl] at *; omega) h1 h2 hLs hRs hL
 rw [Jzj] at this
 exact this
/-! ### The whole sort -/
theorem Jna (X:List Jb) (h:X.length≤39):∃ M,Qh X=some M∧M.Perm X∧M.Pairwise leL:=by
 unfold Qh Qy
 rw [Mb]
 by_cases hn:X.length<20
 ·obtain ⟨M,m1,m2,m3⟩:=Jfd [] X [] (by simp; omega)
  simp only [List.nil_append,List.append_nil,List.length_nil,Nat.zero_add] at m1
  refine ⟨M, ?_,m2,m3⟩
  rw [Qu (r:=.inl (X,0)) (by simp only [Qx,decide_eq_false (show ¬ (20:Int)≤((X.length:Nat):Int) by omega),cond_false])]
  simp only [onInl,Vn,Option.bind_some]
  rw [show (0:Int)=((0:Nat):Int) from rfl,m1]
  simp only [Option.bind_some]
  rw [Qu (r:=.inl M) (by simp only [Qv,decide_eq_false (show ¬ (20:Int)<((X.length:Nat):Int) by omega),cond_false])]
  rfl
 ·have hX:X=X.take 20++X.drop 20:=(List.take_append_drop _ _).symm
  have t1:(X.take 20).length=20:=by simp; omega
  have t2:(X.drop 20).length=X.length - 20:=by simp
  obtain ⟨A,a1,a2,a3⟩:=Jfd [] (X.take 20) (X.drop 20) (by rw [List.nil_append,← hX]; omega)
  simp only [List.nil_append,List.length_nil,Nat.zero_add,t1,← hX] at a1
  have hA:A.length=20:=by rw [a2.length_eq,t1]
  obtain ⟨B,b1,b2,b3⟩:=Jfd A (X.drop 20) [] (by simp [hA]; omega)
  simp only [List.append_nil,hA,t2] at b1
  have hB:B.length=X.length - 20:=by rw [b2.length_eq,t2]
  have hAB:(A++B).Perm X:=by
   have:=a2.append b2
   rwa [← hX] at this
  rw [show 20+(X.length - 20)=X.length by omega] at b1
  have l0:Km (Qx ((X.length:Nat):Int)) (0,20,X)=some (.inl (A++X.drop 20,20)):=by
   have w40:w64 ((20:Int)+20)=40:=by rw [Va (by omega) (by omega)]; rfl
   rw [Vt (s':=((20:Int),(40:Int),A++X.drop 20)) (by
     simp only [Qx,decide_eq_true (show (20:Int)≤((X.length:Nat):Int) by omega),cond_true]
     rw [show (0:Int)=((0:Nat):Int) from rfl,show (20:Int)=((20:Nat):Int) from rfl,a1]
     simp only [Option.bind_some]
     rw [show ((20:Nat):Int)=(20:Int) from rfl,w40]),
    Qu (r:=.inl (A++X.drop 20,20)) (by simp only [Qx,decide_eq_false (show ¬ (40:Int)≤((X.length:Nat):Int) by omega),cond_false])]
  rw [l0]
  simp only [onInl,Vn,Option.bind_some]
  rw [show (20:Int)=((20:Nat):Int) from rfl,b1]
  simp only [Option.bind_some]
  by_cases h20:X.length=20
  ·have hBn:B=[]:=List.eq_nil_of_length_eq_zero (by omega)
   subst hBn
   simp only [List.append_nil] at hAB ⊢
   refine ⟨A, ?_,hAB,a3⟩
   rw [Qu (r:=.inl A) (by simp only [Qv,decide_eq_false (show ¬ ((20:Nat):Int)<((X.length:Nat):Int) by omega),cond_false])]
   rfl
  ·obtain ⟨M,m1,m2,m3⟩:=Jsz [] A B [] (by omega) (by omega) a3 b3 (by simp; omega)
   simp only [List.nil_append,List.append_nil,List.length_nil,Nat.zero_add,hA,hB,show 20+(X.length - 20)=X.length by omega] at m1
   refine ⟨M, ?_,m2.trans hAB,m3⟩
   have w40:w64 (2 * ((20:Nat):Int))=40:=by rw [Va (by omega) (by omega)]; rfl
   have w40':w64 (((20:Nat):Int) * 2)=40:=by rw [Va (by omega) (by omega)]; rfl
   have w20:w64 ((0:Int)+((20:Nat):Int))=((20:Nat):Int):=by rw [Va (by omega) (by omega)]; rfl
   rw [Vt (s':=((40:Int),M)) ?_,Qu (r:=.inl M) (by simp only [Qv,decide_eq_false (show ¬ (40:Int)<((X.length:Nat):Int) by omega),cond_false])]
   ·rfl
   ·simp only [Qv,decide_eq_true (show ((20:Nat):Int)<((X.length:Nat):Int) by omega),cond_true,w40,w40']
    rw [Qu (r:=.inl (A++B,0)) (by simp only [Vw,decide_eq_false (show ¬ (40:Int)≤((X.length:Nat):Int) by omega),cond_false])]
    simp only [onInl,Vn,Option.bind_some,w20,decide_eq_true (show ((20:Nat):Int)<((X.length:Nat):Int) by omega),cond_true]
    rw [show (0:Int)=((0:Nat):Int) from rfl,m1]
    rfl
end PM
/-
 PLAIN, WALK A: what the plain functions of the chapters 6, 7 and 9 come to.
-/
namespace PM
open Go Go.RowKit
def Po (a0 a1 a2:Int):Int×Bool :=
 match Qs.find? (fun x=>decide (x.kind_=a0)&&decide (x.in_=a1)&&decide (x.out_=a2)) with
 | some x=>(x.need_,true)
 | none=>(0,false)
def Jmq (a0 a1:Int):List Int :=
 if a0=1∧a1=0 then [1] else if a0=1∧a1=1 then [0] else
 if a0=2∧a1=0 then [1,2] else if a0=2∧a1=1 then [0] else if a0=2∧a1=2 then [0] else
 if a0=3∧a1=0 then [1] else if a0=3∧a1=1 then [0] else if a0=3∧a1=2 then [3] else if a0=3∧a1=3 then [2] else []
def Tx (a0:Int):Int:=if a0=1 then 2 else if a0=2 then 3 else if a0=3 then 4 else 0
theorem kinds (a:Int):a=1∨a=2∨a=3∨(¬ a=1∧¬ a=2∧¬ a=3∧¬ 1=a∧¬ 2=a∧¬ 3=a):=by omega
theorem Jep (a:Int):a=0∨a=1∨a=2∨a=3∨(¬ a=0∧¬ a=1∧¬ a=2∧¬ a=3∧¬ 0=a∧¬ 1=a∧¬ 2=a∧¬ 3=a):=by omega
set_option maxRecDepth 10000
theorem Jbr (a0 a1 a2:Int):Lk a0 a1 a2=some (Po a0 a1 a2):=by
 unfold Lk Po
 rw [Pz (fun x=>decide (x.kind_=a0)&&decide (x.in_=a1)&&decide (x.out_=a2)) (fun x=>.inr (x.need_,true)) (.inl ()) Qs (by decide)]
 ·cases Qs.find? (fun x=>decide (x.kind_=a0)&&decide (x.in_=a1)&&decide (x.out_=a2)) <;> rfl
 ·intro i x h
  have hi:i<10:=Uc h
  simp only [Nz,Wk h,show decide ((i:Int)<10)=true by simp; omega,cond_true,Option.bind_some]
 ·simp [Nz,Qs]
theorem Pd (a0 a1 a2:Int):Bl a0 a1 a2=some (Po a0 a1 a2):=by
 unfold Bl Po
 rcases kinds a0 with rfl|rfl|rfl|⟨h1,h2,h3,h4,h5,h6⟩
 ·simp [Qs,Bool.cond_eq_ite]
  rcases Jep a1 with rfl|rfl|rfl|rfl|⟨g0,g1,g2,g3,g4,g5,g6,g7⟩ <;> rcases Jep a2 with rfl|rfl|rfl|rfl|⟨e0,e1,e2,e3,e4,e5,e6,e7⟩ <;> simp [*] <;> omega
 ·simp [Qs,Bool.cond_eq_ite]
  rcases Jep a1 with rfl|rfl|rfl|rfl|⟨g0,g1,g2,g3,g4,g5,g6,g7⟩ <;> rcases Jep a2 with rfl|rfl|rfl|rfl|⟨e0,e1,e2,e3,e4,e5,e6,e7⟩ <;> simp [*] <;> (repeat' split) <;> first|rfl|omega
 ·simp [Qs,Bool.cond_eq_ite]
  rcases Jep a1 with rfl|rfl|rfl|rfl|⟨g0,g1,g2,g3,g4,g5,g6,g7⟩ <;> rcases Jep a2 with rfl|rfl|rfl|rfl|⟨e0,e1,e2,e3,e4,e5,e6,e7⟩ <;> simp [*] <;> omega
 ·simp [Qs, *]
def Kds (a0 a1:Int) (i:Nat) (_:Unit) (l:List Int):Option (List Int⊕(List Int⊕List Int)) :=
 bif (Po a0 a1 i).2 then (Vg l [(i:Int)]).map .inl else some (.inl l)
theorem Jhf (a0 a1:Int):Cv a0 a1=onInl (Jq2 (Kds a0 a1) (fun l=>.inl l) [(),(),(),()] 0 []) some:=by
 unfold Cv
 rw [← Jsp (step:=Ey a0 a1) (fun (i:Nat) (l:List Int)=>((i:Int),l))]
 ·rfl
 ·intro i x l h
  have hi:i<4:=Uc h
  simp only [Ey,show decide ((i:Int)<4)=true by simp; omega,cond_true,Pd,Option.bind_some,Kds]
  cases (Po a0 a1 i).2
  ·simp [onInl,Vn,Va (n:=(i:Int)+1) (by omega) (by omega)]
  ·cases Vg l [(i:Int)] <;> simp [onInl,Vn,Va (n:=(i:Int)+1) (by omega) (by omega)]
 ·intro l; simp [Ey]
theorem Ji9 (a0 a1:Int):Cv a0 a1=some (Jmq a0 a1):=by
 rw [Jhf]
 rcases kinds a0 with rfl|rfl|rfl|⟨h1,h2,h3,h4,h5,h6⟩ <;> rcases Jep a1 with rfl|rfl|rfl|rfl|⟨g0,g1,g2,g3,g4,g5,g6,g7⟩ <;>
  simp [Jq2,Po,Qs,Kds,onInl,Vn,Jmq,Vg,Enc.b,Kn, *]
end PM
/-
 PLAIN, WALK B: joined ends, branches, possible steps, lengths, and ways.
-/
namespace PM
open Go Go.RowKit
/-- Small enough for every sum of lengths to be far from the ends of the numbers. -/
structure Sm (l:Je):Prop where
 sec:l.Sections.length≤1048576
 el:l.Elements.length≤1048576
 jo:l.Joints.length≤1048576
 sg:l.Signals.length≤1048576
 ba:l.Balises.length≤1048576
 nm:l.Name.size≤1048576
 secn:∀ x∈l.Sections,x.size≤1048576
 eln:∀ x∈l.Elements,x.Name.size≤1048576
 sgn:∀ x∈l.Signals,x.Name.size≤1048576
theorem Li (x y:Jj):Ku x y=true↔x=y:=by
 cases x; cases y; simp [Ku]
def Qm (l:Je) (e:Jj):Jj×Bool :=
 match l.Joints.find? fun j=>Ku j.A e||Ku j.B e with
 | some j=>(bif Ku j.A e then j.B else j.A,true)
 | none=>(⟨0,0⟩,false)
theorem Jhi {l:Je} (h:l.Joints.length≤1048576) (e:Jj):Dr l e=some (Qm l e):=by
 unfold Dr Qm
 rw [Pz (fun j=>Ku j.A e||Ku j.B e) (fun j=>.inr (bif Ku j.A e then j.B else j.A,true)) (.inl ()) l.Joints (by omega)]
 ·cases l.Joints.find? (fun j=>Ku j.A e||Ku j.B e) <;> rfl
 ·intro i x hx
  have hi:=Uc hx
  simp only [Eu,Wk hx,show decide ((i:Int)<((l.Joints.length:Nat):Int))=true by simp; omega,cond_true,Option.bind_some]
  cases Ku x.A e <;> cases Ku x.B e <;> rfl
 ·simp [Eu]
theorem Vi {l:Je} (h:l.Joints.length≤1048576) (e:Jj):Wj l e=some (Qm l e):=by
 unfold Wj Qm
 rw [Pz (fun j=>Ku j.A e||Ku j.B e) (fun j=>.inr (bif Ku j.A e then j.B else j.A,true)) (.inl ()) l.Joints (by omega)]
 ·cases l.Joints.find? (fun j=>Ku j.A e||Ku j.B e) <;> rfl
 ·intro i x hx
  have hi:=Uc hx
  simp only [Fz,Wk hx,show decide ((i:Int)<((l.Joints.length:Nat):Int))=true by simp; omega,cond_true,Option.bind_some]
  cases Ku x.A e <;> cases Ku x.B e <;> rfl
 ·simp [Fz]
theorem Jf7 {l:Je} (h:l.Joints.length≤1048576) (s:Jd):Co s l=some (Qm l ⟨s.El,s.Out⟩):=by
 simp [Co,Jhi h]
theorem Nq {l:Je} (h:l.Joints.length≤1048576) (s:Jd):Bd l s=some (Qm l ⟨s.El,s.Out⟩):=by
 simp [Bd,Vi h]
def Uv (l:Je) (i:Int):Bool:=decide (0≤i)&&decide (i<((l.Elements.length:Nat):Int))
theorem Jc5 (l:Je) (i:Int):Ea l i=some (Uv l i):=by
 unfold Ea Uv
 cases decide (0≤i) <;> simp
theorem Ig (l:Je) (i:Int):Yf l i=some (Uv l i):=by
 unfold Yf Uv
 cases decide (0≤i) <;> simp
theorem Wf {l:Je} {i:Int} (h:Uv l i=true):∃ x,ixO l.Elements i=some x∧l.Elements[i.toNat]?=some x:=by
 simp only [Uv,Bool.and_eq_true,decide_eq_true_eq] at h
 obtain ⟨x,h1,h2⟩:=Is.ix (L:=l.Elements) h.1 h.2
 exact ⟨x,h1,h2⟩
/-! ### Branches -/
theorem Jol (a0 a1:Int):(Jmq a0 a1).length≤2:=by
 unfold Jmq
 (repeat' split) <;> simp
theorem Jdm (a:Jj) (L:List Int) (h:L.length≤10):Is (Km (Zh a L) (0,([]:List Jd))) fun o=>o=.inl (L.map fun x=>⟨a.El,a.Side,x⟩):=by
 refine Is.loop (mk:=fun (i:Nat) (m:List Jd)=>((i:Int),m)) L.length (fun i m=>m=(L.take i).map fun x=>⟨a.El,a.Side,x⟩) [] rfl ?_ ?_
 ·rintro i m hi rfl
  unfold Zh
  refine Is.cond (fun _=>?_) (fun hb=>by simp at hb; omega)
  refine Is.bind (Is.ixn hi) fun x hx=>?_
  refine Is.bind (Is.app ?_) fun M hM=>?_
  ·simp only [List.length_map,List.length_take,List.length_cons,List.length_nil,Kn,Enc.b]; omega
  ·subst hM
   refine Is.val ⟨(L.take (i+1)).map fun x=>⟨a.El,a.Side,x⟩, ?_,rfl⟩
   rw [Gx (by omega),List.take_add_one,hx]
   simp
 ·rintro m rfl
  unfold Zh
  refine Is.cond (fun hb=>by simp at hb) (fun _=>Is.val ?_)
  simp
def Ej (l:Je) (a:Jj):List Jd :=
 bif Uv l a.El then match l.Elements[a.El.toNat]? with
  | some x=>(Jmq x.Kind a.Side).map fun o=>⟨a.El,a.Side,o⟩
  | none=>[]
 else []
theorem Tj (l:Je) (a:Jj):Yz l a=some (Ej l a):=by
 unfold Yz Ej
 rw [Ig]
 simp only [Option.bind_some]
 cases h:Uv l a.El with
 | false=>rfl
 | true =>
  obtain ⟨x,h1,h2⟩:=Wf h
  obtain ⟨o,h3,rfl⟩:=Jdm a (Jmq x.Kind a.Side) (by have:=Jol x.Kind a.Side; omega)
  simp [h1,h2,Ji9,h3,onInl,Vn]
theorem Jnw (l:Je) (a:Jj):(Ej l a).length≤2:=by
 unfold Ej
 cases Uv l a.El with
 | false=>simp
 | true =>
  simp only [cond_true]
  split
  ·rename_i x _
   have:=Jol x.Kind a.Side
   simpa using this
  ·simp
/-! ### Possible steps -/
def Tu (l:Je) (s:Jd):Int×Bool :=
 bif Uv l s.El then match l.Elements[s.El.toNat]? with
  | some x=>Po x.Kind s.In s.Out
  | none=>(0,false)
 else (0,false)
theorem Jg4 (l:Je) (s:Jd):Df l s=some (Tu l s):=by
 unfold Df Tu
 rw [Jc5]
 simp only [Option.bind_some]
 cases h:Uv l s.El with
 | false=>rfl
 | true =>
  obtain ⟨x,h1,h2⟩:=Wf h
  simp [h1,h2,Jbr]
end PM
/-
 PLAIN, WALK C: lengths and ways.
-/
namespace PM
open Go Go.RowKit
def lenOf (l:Je) (s:Jd):Int:=bif Uv l s.El then ((l.Elements[s.El.toNat]?).map (·.Length)).getD 0 else 0
def Ur (l:Je):List Jd→Int
 | []=>0
 | s::r=>lenOf l s+Ur l r
theorem Fq (l:Je):∀ a b:List Jd,Ur l (a++b)=Ur l a+Ur l b
 | [],b=>by simp [Ur]
 | s::r,b=>by simp only [List.cons_append,Ur,Fq l r b]; omega
theorem Jmj (l:Je) (way:List Jd) (h:way.length≤1048576):Hs l way=some (w64 (Ur l way)):=by
 unfold Hs
 have:Is (Km (Dk l way) (0,0)) fun o=>o=.inl (w64 (Ur l way)):=by
  refine Is.loop (mk:=fun (i:Nat) (x:Int)=>(x,(i:Int))) way.length (fun i x=>x=w64 (Ur l (way.take i))) 0 rfl ?_ ?_
  ·rintro i x hi rfl
   unfold Dk
   refine Is.cond (fun _=>?_) (fun hb=>by simp at hb; omega)
   refine Is.onInl (θ:=fun o=>o=.inl (w64 (Ur l (way.take (i+1))))) ?_ ?_ ?_
   ·refine Is.bind (Is.ixn hi) fun s hs=>?_
    have e:Ur l (way.take (i+1))=Ur l (way.take i)+lenOf l s:=by
     rw [List.take_add_one,hs,Option.toList_some,Fq]; simp [Ur]
    rw [Jc5]
    refine Is.bind (Is.eq rfl) fun b hb=>?_
    refine Is.cond (fun hb'=>?_) (fun hb'=>?_)
    ·subst hb
     obtain ⟨x,h1,h2⟩:=Wf hb'
     refine Is.bind (Is.eq h1) fun y hy=>?_
     subst hy
     refine Is.val ?_
     rw [e,Jvs]
     simp [lenOf,hb',h2]
    ·subst hb
     refine Is.val ?_
     rw [e]
     simp [lenOf,hb']
   ·rintro v hv
    cases hv
    exact Is.val ⟨_,by rw [Gx (by omega)],rfl⟩
   ·intro b hb; cases hb
  ·rintro x rfl
   unfold Dk
   refine Is.cond (fun hb=>by simp at hb) (fun _=>Is.val ?_)
   rw [List.take_length]
 obtain ⟨o,h1,rfl⟩:=this
 simp [h1,onInl,Vn]
/-! ### Ways -/
def Pj (l:Je) (way:List Jd) (i:Nat):Prop :=
 ∃ s,way[i]?=some s∧(Tu l s).2=true∧(∀ k t,k<i→way[k]?=some t→t.El≠s.El)∧(∀ p,0<i→way[i - 1]?=some p→Qm l ⟨p.El,p.Out⟩=(⟨s.El,s.In⟩,true))
def Wi (l:Je) (way:List Jd):Prop:=1≤way.length∧way.length≤64∧∀ i,i<way.length→Pj l way i
theorem Jy0 (s:Jd) (L:List Jd) (h:L.length≤1048576):Is (Km (Fb s L) 0) fun o=>match o with
  | .inl _=>∀ t∈L,t.El≠s.El
  | .inr x=>x=.inr (.inr (.inr false))∧∃ t∈L,t.El=s.El:=by
 refine Is.loop (mk:=fun (i:Nat) (_:Unit)=>(i:Int)) L.length (fun i _=>∀ k t,k<i→L[k]?=some t→t.El≠s.El) () (fun k t hk=>by omega) ?_ ?_
 ·rintro i m hi hI
  unfold Fb
  refine Is.cond (fun _=>?_) (fun hb=>by simp at hb; omega)
  refine Is.bind (Is.ixn hi) fun t ht=>?_
  refine Is.cond (fun hb=>?_) (fun hb=>?_)
  ·exact Is.val ⟨rfl,t,List.mem_of_getElem? ht,by simpa using hb⟩
  ·refine Is.val ⟨(),by rw [Gx (by omega)],fun k u hk hu=>?_⟩
   by_cases e:k=i
   ·subst e; rw [ht] at hu; cases hu; simpa using hb
   ·exact hI k u (by omega) hu
 ·rintro m hI
  unfold Fb
  refine Is.cond (fun hb=>by simp at hb) (fun _=>Is.val ?_)
  intro t ht
  obtain ⟨k,hk⟩:=List.getElem?_of_mem ht
  exact hI k t (List.getElem?_eq_some_iff.1 hk).1 hk
theorem Tz (l:Je) (way:List Jd) (hl:l.Joints.length≤1048576) (h:way.length≤1048576):Is (Db l way) fun b=>b=true↔Wi l way:=by
 unfold Db
 refine Is.bind (φ:=fun b=>b=true↔(way.length=0∨64<way.length)) ?_ fun b hb=>?_
 ·refine Is.cond (fun hb=>Is.val ?_) (fun hb=>Is.val ?_)
  ·have:((way.length:Nat):Int)=0:=of_decide_eq_true hb
   simp only [true_iff]; omega
  ·have:¬ ((way.length:Nat):Int)=0:=of_decide_eq_false hb
   rw [decide_eq_true_iff]; omega
 refine Is.cond (fun hb'=>Is.val ?_) (fun hb'=>?_)
 ·have:=hb.1 hb'
  simp only [Bool.false_eq_true,Wi,false_iff]
  omega
 ·have hlen:¬ (way.length=0∨64<way.length):=fun e=>by rw [hb.2 e] at hb'; cases hb'
  simp only [Lq]
  refine Is.bind (Is.eq rfl) fun r hr=>?_
  rw [show r=l from hr]
  refine Is.onInl (θ:=fun o=>match o with|.inl _=>∀ i,i<way.length→Pj l way i|.inr b=>b=false∧∃ i,i<way.length∧¬ Pj l way i) ?_ ?_ ?_
  ·refine Is.loop (mk:=fun (i:Nat) (_:Unit)=>(i:Int)) way.length (fun i _=>∀ j,j<i→Pj l way j) () (fun j hj=>by omega) ?_ ?_
   ·rintro i m hi hI
    unfold Lv
    refine Is.cond (fun _=>?_) (fun hb=>by simp at hb; omega)
    refine Is.onInl (θ:=fun o=>match o with|.inl _=>Pj l way i|.inr x=>x=.inr (.inr false)∧¬ Pj l way i) ?_ ?_ ?_
    ·refine Is.bind (Is.ixn hi) fun s hs=>?_
     rw [Jg4]
     refine Is.bind (Is.eq rfl) fun r hr=>?_
     subst hr
     have bad:∀ {q:Prop},(Pj l way i→q)→¬ q→¬ Pj l way i:=fun h1 h2 h3=>h2 (h1 h3)
     refine Is.cond (fun hb=>Is.val ⟨rfl, ?_⟩) (fun hb=>?_)
     ·rintro ⟨s',h1,h2,_⟩
      rw [hs] at h1; cases h1
      rw [h2] at hb; cases hb
     ·have hpos:(Tu l s).2=true:=by simpa using hb
      rw [Jyi (Nat.le_of_lt hi)]
      refine Is.bind (Is.eq rfl) fun L hL=>?_
      subst hL
      refine Is.onInl (Jy0 s (way.take i) (by simp; omega)) ?_ ?_
      ·rintro v hv
       have hd:∀ k t,k<i→way[k]?=some t→t.El≠s.El:=fun k t hk ht=>hv t (List.mem_of_getElem? (i:=k) (by rw [List.getElem?_take,if_pos hk]; exact ht))
       refine Is.cond (fun h0=>Is.val ?_) (fun h0=>?_)
       ·have:i=0:=by
         have:(i:Int)=0:=by simpa using h0
         omega
        exact ⟨s,hs,hpos,hd,fun p hp=>by omega⟩
       ·have hi0:i≠0:=by
         have:¬ (i:Int)=0:=by simpa using h0
         omega
        have e:w64 ((i:Int) - 1)=((i - 1:Nat):Int):=by rw [Va (by omega) (by omega)]; omega
        rw [e]
        refine Is.bind (Is.ixn (by omega)) fun p hp=>?_
        rw [Jf7 hl]
        refine Is.bind (Is.eq rfl) fun r hr=>?_
        subst hr
        refine Is.cond (fun hb=>Is.val ⟨rfl, ?_⟩) (fun hb=>Is.val ⟨s,hs,hpos,hd,fun p' _ hp'=>?_⟩)
        ·rintro ⟨s',h1,_,_,h4⟩
         rw [hs] at h1; cases h1
         rw [h4 p (by omega) hp] at hb
         simp at hb
        ·rw [hp] at hp'; cases hp'
         simp at hb
         obtain ⟨⟨h5,h6⟩,h7⟩:=hb
         cases hq:Qm l ⟨p.El,p.Out⟩ with
         | mk e z =>
          cases e
          rw [hq] at h5 h6 h7
          simp_all
      ·rintro x ⟨rfl,t,ht,he⟩
       refine ⟨rfl, ?_⟩
       rintro ⟨s',h1,_,h3,_⟩
       rw [hs] at h1; cases h1
       obtain ⟨k,hk⟩:=List.getElem?_of_mem ht
       rw [List.getElem?_take] at hk
       split at hk
       ·rename_i hki; exact h3 k t hki hk he
       ·cases hk
    ·rintro v hv
     refine Is.val ⟨(),by rw [Gx (by omega)],fun j hj=>?_⟩
     by_cases e:j=i
     ·subst e; exact hv
     ·exact hI j (by omega)
    ·rintro x ⟨rfl,hv⟩
     exact ⟨rfl,i,hi,hv⟩
   ·rintro m hI
    unfold Lv
    refine Is.cond (fun hb=>by simp at hb) (fun _=>Is.val ?_)
    exact hI
  ·rintro v hv
   refine Is.val ?_
   simp only [true_iff,Wi]
   exact ⟨by omega,by omega,hv⟩
  ·rintro b ⟨rfl,i,hi,hn⟩
   simp only [Bool.false_eq_true,false_iff,Wi]
   exact fun e=>hn (e.2.2 i hi)
end PM
/-
 PLAIN, WALK D: the reference's check of a layout comes to a value; if it is 0, the ends of all joints exist.
-/
namespace PM
open Go Go.RowKit
theorem Ro (a0:Int):Dy a0=some (Tx a0):=by
 unfold Dy Tx
 simp [Bool.cond_eq_ite]
 (repeat' split) <;> simp_all
def exS (l:Je) (e:Jj):Bool :=
 Uv l e.El&&decide (0≤e.Side)&&(match l.Elements[e.El.toNat]? with|some x=>decide (e.Side<Tx x.Kind)|none=>false)
theorem Ja4 (l:Je) (e:Jj):Zi l e=some (exS l e):=by
 unfold Zi exS
 have h1:((bif decide (0≤e.El) then (some (decide (e.El<((l.Elements.length:Nat):Int)))) else some false):Option Bool)=some (Uv l e.El):=by
  unfold Uv; cases decide (0≤e.El) <;> simp
 rw [h1]
 simp only [Option.bind_some]
 cases h:Uv l e.El with
 | false=>rfl
 | true =>
  obtain ⟨x,h2,h3⟩:=Wf h
  cases decide (0≤e.Side) with
  | false=>rfl
  | true=>simp [h2,h3,Ro]
theorem Vs {α:Type} {L:List α} {i:Nat} {x:α} (h:L[i]?=some x):L.take (i+1)=L.take i++[x]:=by rw [List.take_add_one,h]; rfl
/-! ### Names -/
theorem Jls {l:Je} (h:Sm l):Is (Ht l) fun r=>r.x0=l.Sections∧r.x1=l.Elements.map (·.Name)∧r.x2=l.Signals.map (·.Name):=by
 unfold Ht
 have h1:=h.sec; have h2:=h.el; have h3:=h.sg
 refine Is.bind (Is.app (by simp only [List.length_nil,Kn,Enc.b]; omega)) fun x1 hx1=>?_
 refine Is.onInl (θ:=fun o=>o=.inl (l.Elements.map (·.Name))) ?_ ?_ (fun b hb=>by cases hb)
 ·refine Is.loop (mk:=fun (i:Nat) (m:List ByteArray)=>((i:Int),m)) l.Elements.length (fun i m=>m=(l.Elements.take i).map (·.Name)) [] rfl ?_ ?_
  ·rintro i m hi rfl
   unfold Ib
   refine Is.cond (fun _=>?_) (fun hb=>by simp at hb; omega)
   refine Is.bind (Is.ixn hi) fun x hx=>?_
   refine Is.bind (Is.app ?_) fun M hM=>?_
   ·simp only [List.length_map,List.length_take,List.length_cons,List.length_nil,Kn,Enc.b]; omega
   ·subst hM
    exact Is.val ⟨_,by rw [Gx (by omega)],by rw [List.take_add_one,hx]; simp⟩
  ·rintro m rfl
   unfold Ib
   exact Is.cond (fun hb=>by simp at hb) (fun _=>Is.val (by rw [List.take_length]))
 ·rintro v hv
  cases hv
  refine Is.onInl (θ:=fun o=>o=.inl (l.Signals.map (·.Name))) ?_ ?_ (fun b hb=>by cases hb)
  ·refine Is.loop (mk:=fun (i:Nat) (m:List ByteArray)=>((i:Int),m)) l.Signals.length (fun i m=>m=(l.Signals.take i).map (·.Name)) [] rfl ?_ ?_
   ·rintro i m hi rfl
    unfold Ie
    refine Is.cond (fun _=>?_) (fun hb=>by simp at hb; omega)
    refine Is.bind (Is.ixn hi) fun x hx=>?_
    refine Is.bind (Is.app ?_) fun M hM=>?_
    ·simp only [List.length_map,List.length_take,List.length_cons,List.length_nil,Kn,Enc.b]; omega
    ·subst hM
     exact Is.val ⟨_,by rw [Gx (by omega)],by rw [List.take_add_one,hx]; simp⟩
   ·rintro m rfl
    unfold Ie
    exact Is.cond (fun hb=>by simp at hb) (fun _=>Is.val (by rw [List.take_length]))
  ·rintro v hv
   cases hv
   exact Is.val ⟨by rw [hx1,List.nil_append],rfl,rfl⟩
/-! ### Elements -/
def Mo (L:List Qg):List Jj:=L.flatMap fun j=>[j.A,j.B]
theorem Jsq (L:List Qg) (j:Qg):Mo (L++[j])=Mo L++[j.A,j.B]:=by simp [Mo]
/-- The ends of all joints exist, and no end twice. -/
def Jo6 (l:Je):Prop:=(∀ j∈l.Joints,exS l j.A=true∧exS l j.B=true)∧(Mo l.Joints).Nodup
theorem Jqm {l:Je} {e:Jj} (h:exS l e=true):Uv l e.El=true:=by
 simp only [exS,Bool.and_eq_true] at h; exact h.1.1
theorem Jsj {l:Je} (hJ:Jo6 l) {e f:Jj} (h:Qm l e=(f,true)):exS l f=true:=by
 unfold Qm at h
 split at h
 ·rename_i j hj
  have hm:=hJ.1 j (List.mem_of_find?_eq_some hj)
  cases hA:Ku j.A e <;> rw [hA] at h <;> simp at h <;> subst h
  ·exact hm.1
  ·exact hm.2
 ·simp at h
end PM
/-
 PLAIN, WALK E: the chapter's examples.
-/
namespace PM
open Go Go.RowKit
end PM
/-
 THE PLAIN LAWS OF CHAPTER 9: WalkSteps, WalkParts, WalkGoesOn.
-/
namespace PM
open Go Go.RowKit
end PM
/-
 PLAIN, WALK H: reverses, sections, lists without repetitions, settings.
-/
namespace PM
open Go Go.RowKit
theorem Jc3 {α:Type} {p:List α→Prop} (h0:p []) (h1:∀ l x,p l→p (l++[x])) (l:List α):p l:=by
 have key:∀ m:List α,p m.reverse:=by
  intro m
  induction m with
  | nil=>exact h0
  | cons x m ih=>rw [List.reverse_cons]; exact h1 _ _ ih
 have:=key l.reverse
 rwa [List.reverse_reverse] at this
/-! ### Lists without repetitions of neighbours -/
section
variable {α:Type} [DecidableEq α]
def Jg5 (acc:List α) (x:α):List α:=if acc.getLast?=some x then acc else acc++[x]
def ddS (l:List α):List α:=l.foldl Jg5 []
theorem Jf3 (l:List α) (x:α):ddS (l++[x])=Jg5 (ddS l) x:=by simp [ddS,List.foldl_append]
theorem Js2 (l:List α):(ddS l).getLast?=l.getLast?:=by
 induction l using Jc3 with
 | h0=>rfl
 | h1 l x ih =>
  rw [Jf3,Jg5]
  split
  ·rename_i h; rw [h]; simp
  ·simp
theorem Jqb (l:List α):(ddS l).length≤l.length:=by
 induction l using Jc3 with
 | h0=>simp [ddS]
 | h1 l x ih =>
  rw [Jf3,Jg5]
  split
  ·simp; omega
  ·simp; omega
theorem Jpb (l:List α) (x:α):x∈ddS l↔x∈l:=by
 induction l using Jc3 with
 | h0=>simp [ddS]
 | h1 l y ih =>
  rw [Jf3,Jg5]
  split
  ·rename_i h
   rw [ih,List.mem_append,List.mem_singleton]
   constructor
   ·exact .inl
   ·rintro (h1|rfl)
    ·exact h1
    ·rw [Js2] at h
     exact List.mem_of_getLast? h
  ·simp [ih]
/-- Of a list that ascends, one that ascends strictly. -/
theorem Je4 {lt:α→α→Bool} (tr:∀ x y z,lt x y=true→lt y z=true→lt x z=true) (tot:∀ x y,lt y x=false→x=y∨lt x y=true) (l:List α) (h:l.Pairwise fun x y=>lt y x=false):(ddS l).Pairwise fun x y=>lt x y=true:=by
 induction l using Jc3 with
 | h0=>simp [ddS]
 | h1 l y ih =>
  rw [List.pairwise_append] at h
  obtain ⟨h1,_,h2⟩:=h
  have ih':=ih h1
  rw [Jf3,Jg5]
  split
  ·exact ih'
  ·rename_i hne
   rw [List.pairwise_append]
   refine ⟨ih',by simp,fun x hx z hz=>?_⟩
   simp only [List.mem_singleton] at hz
   subst hz
   -- the last element of what is kept
   obtain ⟨m,hm⟩:∃ m,(ddS l).getLast?=some m:=by
    cases hd:ddS l with
    | nil=>rw [hd] at hx; cases hx
    | cons a r=>exact ⟨_,List.getLast?_eq_some_getLast (List.cons_ne_nil _ _)⟩
   have hml:m∈l:=by rw [Js2] at hm; exact List.mem_of_getLast? hm
   have hmz:lt m z=true:=by
    rcases tot m z (h2 m hml z (by simp)) with e|e
    ·subst e; exact absurd hm hne
    ·exact e
   by_cases hxm:x=m
   ·subst hxm; exact hmz
   ·have hsplit:∃ a,ddS l=a++[m]:=by
     refine ⟨(ddS l).dropLast, ?_⟩
     have hne':ddS l≠[]:=fun e=>by rw [e] at hx; cases hx
     have:=List.dropLast_concat_getLast hne'
     rw [List.getLast?_eq_some_getLast hne'] at hm
     cases hm
     exact this.symm
    obtain ⟨a,ha⟩:=hsplit
    rw [ha] at hx ih'
    rw [List.pairwise_append] at ih'
    rcases List.mem_append.1 hx with hx|hx
    ·exact tr x m z (ih'.2.2 x hx m (by simp)) hmz
    ·exact absurd (by simpa using hx) hxm
/-- Two lists that ascend strictly and have the same elements are one. -/
theorem Nu {lt:α→α→Bool} (ir:∀ x,lt x x=false) (tr:∀ x y z,lt x y=true→lt y z=true→lt x z=true):∀ (a b:List α),a.Pairwise (fun x y=>lt x y=true)→b.Pairwise (fun x y=>lt x y=true)→(∀ x,x∈a↔x∈b)→a=b
 | [],[],_,_,_=>rfl
 | [],y::b,_,_,h=>absurd ((h y).2 (by simp)) (by simp)
 | x::a,[],_,_,h=>absurd ((h x).1 (by simp)) (by simp)
 | x::a,y::b,ha,hb,h=>by
  rw [List.pairwise_cons] at ha hb
  have hxy:x=y:=by
   have h1:=(h x).1 (by simp)
   have h2:=(h y).2 (by simp)
   rcases List.mem_cons.1 h1 with e|h1
   ·exact e
   ·rcases List.mem_cons.1 h2 with e|h2
    ·exact e.symm
    ·have:=tr _ _ _ (hb.1 x h1) (ha.1 y h2)
     rw [ir] at this; cases this
  subst hxy
  have hnx:∀ {l:List α},(∀ z∈l,lt x z=true)→x∉l:=fun hl hm=>by
   have:=hl x hm
   rw [ir] at this; cases this
  rw [Nu ir tr a b ha.2 hb.2 fun z=>?_]
  by_cases hz:z=x
  ·subst hz; exact ⟨fun q=>absurd q (hnx ha.1),fun q=>absurd q (hnx hb.1)⟩
  ·have:=h z
   simpa [hz] using this
end
/-! ### Reverses -/
end PM
/-
 PLAIN, WALK I: the reference's ways, lengths and sections; both sections.
-/
namespace PM
open Go Go.RowKit
theorem Jd9 (l:Je) (s:Jd):Gg l s=some (Tu l s):=by
 unfold Gg Tu
 rw [Ig]
 simp only [Option.bind_some]
 cases h:Uv l s.El with
 | false=>rfl
 | true =>
  obtain ⟨x,h1,h2⟩:=Wf h
  simp [h1,h2,Pd]
theorem Jmv (way:List Jd) (h:way.length≤1048576) {i:Nat} {s:Jd} (hs:way[i]?=some s):Is (Km (Dg way i) 0) fun o=>match o with
  | .inl _=>∀ k t,k<i→way[k]?=some t→t.El≠s.El
  | .inr x=>x=.inr (.inr false)∧∃ k t,k<i∧way[k]?=some t∧t.El=s.El:=by
 have hi:=Uc hs
 refine Is.loop (mk:=fun (i:Nat) (_:Unit)=>(i:Int)) i (fun j _=>∀ k t,k<j→way[k]?=some t→t.El≠s.El) () (fun k t hk=>by omega) ?_ ?_
 ·rintro j m hj hI
  unfold Dg
  refine Is.cond (fun _=>?_) (fun hb=>by simp at hb; omega)
  refine Is.bind (Is.ixn (Nat.lt_trans hj hi)) fun t ht=>Is.bind (Is.ixn hi) fun u hu=>?_
  rw [hs] at hu; cases hu
  refine Is.cond (fun hb=>?_) (fun hb=>?_)
  ·exact Is.val ⟨rfl,j,t,hj,ht,by simpa using hb⟩
  ·refine Is.val ⟨(),by rw [Gx (by omega)],fun k u hk hu=>?_⟩
   by_cases e:k=j
   ·subst e; rw [ht] at hu; cases hu; simpa using hb
   ·exact hI k u (by omega) hu
 ·rintro m hI
  unfold Dg
  exact Is.cond (fun hb=>by simp at hb) (fun _=>Is.val hI)
theorem Jms (l:Je) (way:List Jd) (hl:l.Joints.length≤1048576) (h:way.length≤1048576):Is (Hl l way) fun b=>b=true↔Wi l way:=by
 unfold Hl
 refine Is.bind (φ:=fun b=>b=true↔(way.length=0∨64<way.length)) ?_ fun b hb=>?_
 ·refine Is.cond (fun hb=>Is.val ?_) (fun hb=>Is.val ?_)
  ·have:((way.length:Nat):Int)=0:=of_decide_eq_true hb
   simp only [true_iff]; omega
  ·have:¬ ((way.length:Nat):Int)=0:=of_decide_eq_false hb
   rw [decide_eq_true_iff]; omega
 refine Is.cond (fun hb'=>Is.val ?_) (fun hb'=>?_)
 ·have:=hb.1 hb'
  simp only [Bool.false_eq_true,Wi,false_iff]
  omega
 ·have hlen:¬ (way.length=0∨64<way.length):=fun e=>by rw [hb.2 e] at hb'; cases hb'
  refine Is.onInl (θ:=fun o=>match o with|.inl _=>∀ i,i<way.length→Pj l way i|.inr b=>b=false∧∃ i,i<way.length∧¬ Pj l way i) ?_ ?_ ?_
  ·refine Is.loop (mk:=fun (i:Nat) (_:Unit)=>(i:Int)) way.length (fun i _=>∀ j,j<i→Pj l way j) () (fun j hj=>by omega) ?_ ?_
   ·rintro i m hi hI
    unfold Hz
    refine Is.cond (fun _=>?_) (fun hb=>by simp at hb; omega)
    refine Is.bind (Is.ixn hi) fun s hs=>?_
    rw [Jd9]
    refine Is.bind (Is.eq rfl) fun r hr=>?_
    subst hr
    refine Is.cond (fun hb=>Is.val ⟨rfl,i,hi, ?_⟩) (fun hb=>?_)
    ·rintro ⟨s',h1,h2,_⟩
     rw [hs] at h1; cases h1
     rw [h2] at hb; cases hb
    have hpos:(Tu l s).2=true:=by simpa using hb
    refine Is.onInl (θ:=fun o=>match o with|.inl _=>(∀ p,0<i→way[i - 1]?=some p→Qm l ⟨p.El,p.Out⟩=(⟨s.El,s.In⟩,true))|.inr x=>x=.inr (.inr false)∧¬ Pj l way i) ?_ ?_ ?_
    ·refine Is.cond (fun h0=>?_) (fun h0=>Is.val fun p hp=>?_)
     ·have hi0:0<i:=by
       have:(0:Int)<i:=of_decide_eq_true h0
       omega
      have e:w64 ((i:Int) - 1)=((i - 1:Nat):Int):=by rw [Va (by omega) (by omega)]; omega
      rw [e]
      refine Is.bind (Is.ixn (by omega)) fun p hp=>?_
      rw [Nq hl]
      refine Is.bind (Is.eq rfl) fun r hr=>?_
      subst hr
      refine Is.bind (φ:=fun b=>b=true↔((Qm l ⟨p.El,p.Out⟩).2=false∨(Qm l ⟨p.El,p.Out⟩).1.El≠s.El)) ?_ fun b1 hb1=>?_
      ·refine Is.cond (fun hc=>Is.val ?_) (fun hc=>?_)
       ·simp at hc; simp [hc]
       ·simp at hc
        refine Is.bind (Is.ixn hi) fun u hu=>Is.val ?_
        rw [hs] at hu; cases hu
        simp [hc]
      refine Is.bind (φ:=fun b=>b=true↔((Qm l ⟨p.El,p.Out⟩).2=false∨(Qm l ⟨p.El,p.Out⟩).1.El≠s.El∨(Qm l ⟨p.El,p.Out⟩).1.Side≠s.In)) ?_ fun b2 hb2=>?_
      ·refine Is.cond (fun hc=>Is.val ?_) (fun hc=>?_)
       ·rcases hb1.1 hc with e|e <;> simp [e]
       ·have hc':¬ ((Qm l ⟨p.El,p.Out⟩).2=false∨(Qm l ⟨p.El,p.Out⟩).1.El≠s.El):=fun e=>by rw [hb1.2 e] at hc; cases hc
        refine Is.bind (Is.ixn hi) fun u hu=>Is.val ?_
        rw [hs] at hu; cases hu
        have h1:¬ (Qm l ⟨p.El,p.Out⟩).2=false:=fun e=>hc' (.inl e)
        have h2:¬ (Qm l ⟨p.El,p.Out⟩).1.El≠s.El:=fun e=>hc' (.inr e)
        constructor
        ·intro e
         exact .inr (.inr (by simpa using e))
        ·rintro (e|e|e)
         ·exact absurd e h1
         ·exact absurd e h2
         ·simpa using e
      refine Is.cond (fun hc=>Is.val ⟨rfl, ?_⟩) (fun hc=>Is.val fun p' _ hp'=>?_)
      ·rintro ⟨s',h1,_,_,h4⟩
       rw [hs] at h1; cases h1
       have:=h4 p hi0 hp
       rcases hb2.1 hc with e|e|e
       ·rw [this] at e; cases e
       ·rw [this] at e; exact e rfl
       ·rw [this] at e; exact e rfl
      ·rw [hp] at hp'; cases hp'
       have hc':¬ ((Qm l ⟨p.El,p.Out⟩).2=false∨(Qm l ⟨p.El,p.Out⟩).1.El≠s.El∨(Qm l ⟨p.El,p.Out⟩).1.Side≠s.In):=fun e=>by rw [hb2.2 e] at hc; cases hc
       cases hq:Qm l ⟨p.El,p.Out⟩ with
       | mk e z =>
        cases e
        rw [hq] at hc'
        simp_all
     ·have:¬ (0:Int)<i:=of_decide_eq_false h0
      omega
    ·intro v hv
     refine Is.onInl (Jmv way h hs) ?_ ?_
     ·intro w hw
      refine Is.val ⟨(),by rw [Gx (by omega)],fun j hj=>?_⟩
      by_cases e:j=i
      ·subst e; exact ⟨s,hs,hpos,hw,hv⟩
      ·exact hI j (by omega)
     ·rintro x ⟨rfl,k,t,hk,ht,he⟩
      refine ⟨rfl,i,hi, ?_⟩
      rintro ⟨s',h1,_,h3,_⟩
      rw [hs] at h1; cases h1
      exact h3 k t hk ht he
    ·rintro x ⟨rfl,hn⟩
     exact ⟨rfl,i,hi,hn⟩
   ·rintro m hI
    unfold Hz
    exact Is.cond (fun hb=>by simp at hb) (fun _=>Is.val hI)
  ·rintro v hv
   refine Is.val ?_
   simp only [true_iff,Wi]
   exact ⟨by omega,by omega,hv⟩
  ·rintro b ⟨rfl,i,hi,hn⟩
   simp only [Bool.false_eq_true,false_iff,Wi]
   exact fun e=>hn (e.2.2 i hi)
theorem Ja5 (l:Je) (way:List Jd) (h:way.length≤1048576):Cb l way=some (w64 (Ur l way)):=by
 unfold Cb
 have:Is (Km (Cg l way) (0,0)) fun o=>o=.inl (w64 (Ur l way)):=by
  refine Is.loop (mk:=fun (i:Nat) (x:Int)=>(x,(i:Int))) way.length (fun i x=>x=w64 (Ur l (way.take i))) 0 rfl ?_ ?_
  ·rintro i x hi rfl
   unfold Cg
   refine Is.cond (fun _=>?_) (fun hb=>by simp at hb; omega)
   refine Is.onInl (θ:=fun o=>o=.inl (w64 (Ur l (way.take (i+1))))) ?_ ?_ ?_
   ·refine Is.bind (Is.ixn hi) fun s hs=>?_
    have e:Ur l (way.take (i+1))=Ur l (way.take i)+lenOf l s:=by
     rw [Vs hs,Fq]; simp [Ur]
    rw [Ig]
    refine Is.bind (Is.eq rfl) fun b hb=>?_
    refine Is.cond (fun hb'=>?_) (fun hb'=>?_)
    ·subst hb
     refine Is.bind (Is.ixn hi) fun s' hs'=>?_
     rw [hs] at hs'; cases hs'
     obtain ⟨x,h1,h2⟩:=Wf hb'
     refine Is.bind (Is.eq h1) fun y hy=>?_
     subst hy
     refine Is.val ?_
     rw [e,Jvs]
     simp [lenOf,hb',h2]
    ·subst hb
     refine Is.val ?_
     rw [e]
     simp [lenOf,hb']
   ·rintro v hv
    cases hv
    exact Is.val ⟨_,by rw [Gx (by omega)],rfl⟩
   ·intro b hb; cases hb
  ·rintro x rfl
   unfold Cg
   refine Is.cond (fun hb=>by simp at hb) (fun _=>Is.val ?_)
   rw [List.take_length]
 obtain ⟨o,h1,rfl⟩:=this
 simp [h1,onInl,Vn]
/-! ### Sections -/
def Jix (L:List Int):List Int:=L.foldl (fun acc x=>if x∈acc then acc else acc++[x]) []
theorem Jkq (L:List Int) (x:Int):Jix (L++[x])=if x∈Jix L then Jix L else Jix L++[x]:=by
 unfold Jix
 rw [List.foldl_append]
 rfl
theorem Jwm (L:List Int):(Jix L).length≤L.length:=by
 induction L using Jc3 with
 | h0=>simp [Jix]
 | h1 l x ih =>
  rw [Jkq]
  split <;> simp <;> omega
def Jnt (l:Je) (s:Jd):Option Int:=bif Uv l s.El then (l.Elements[s.El.toNat]?).map (·.Section) else none
def Xe (l:Je) (way:List Jd):List Int:=Jix (way.filterMap (Jnt l))
theorem Jw7 (l:Je) (way:List Jd) (s:Jd):Xe l (way++[s])=match Jnt l s with|some x=>if x∈Xe l way then Xe l way else Xe l way++[x]|none=>Xe l way:=by
 unfold Xe
 rw [List.filterMap_append,List.filterMap_cons,List.filterMap_nil]
 cases Jnt l s with
 | none=>simp
 | some x=>rw [Jkq]
theorem Jkh (l:Je) (way:List Jd):(Xe l way).length≤way.length:=Nat.le_trans (Jwm _) (List.length_filterMap_le _ _)
theorem Jo1 (L:List Int) (x:Int) (h:L.length≤1048576):Ob L x=some (decide (x∈L)):=by
 unfold Ob
 rw [Pz (fun y=>decide (y=x)) (fun _=>.inr true) (.inl ()) L (by omega)]
 ·cases hf:L.find? (fun y=>decide (y=x)) with
  | none =>
   have:¬ x∈L:=fun hm=>by
    have:=List.find?_eq_none.1 hf x hm
    simp at this
   simp [this,onInl,Vn]
  | some y =>
   have h1:=List.find?_some hf
   have h2:=List.mem_of_find?_eq_some hf
   simp at h1; subst h1
   simp [h2,onInl,Vn]
 ·intro i y hy
  have hi:=Uc hy
  simp only [Nr,Wk hy,show decide ((i:Int)<((L.length:Nat):Int))=true by simp; omega,cond_true,Option.bind_some]
 ·simp [Nr]
theorem Mx (l:Je) (way:List Jd) (h:way.length≤1000000):Wa l way=some (Xe l way):=by
 unfold Wa
 have:Is (Km (Zp l way) (0,[])) fun o=>o=.inl (Xe l way):=by
  refine Is.loop (mk:=fun (i:Nat) (m:List Int)=>((i:Int),m)) way.length (fun i m=>m=Xe l (way.take i)) [] rfl ?_ ?_
  ·rintro i m hi rfl
   unfold Zp
   refine Is.cond (fun _=>?_) (fun hb=>by simp at hb; omega)
   have hlen:(Xe l (way.take i)).length≤i:=Nat.le_trans (Jkh _ _) (by simp; omega)
   refine Is.onInl (θ:=fun o=>o=.inl (Xe l (way.take (i+1)))) ?_ ?_ (fun b hb=>by cases hb)
   ·refine Is.bind (Is.ixn hi) fun s hs=>?_
    rw [Ig,Vs hs,Jw7]
    refine Is.bind (Is.eq rfl) fun b hb=>?_
    cases hE:Uv l s.El with
    | false =>
     subst hb
     rw [hE]
     exact Is.val (by simp [Jnt,hE])
    | true =>
     subst hb
     rw [hE]
     obtain ⟨x,h1,h2⟩:=Wf hE
     have hso:Jnt l s=some x.Section:=by simp [Jnt,hE,h2]
     rw [hso]
     refine Is.bind (φ:=fun b=>b = !decide (x.Section∈Xe l (way.take i))) (Is.cond (fun _=>?_) (fun e=>by cases e)) fun b hb=>?_
     ·refine Is.bind (Is.ixn hi) fun s' hs'=>?_
      rw [hs] at hs'; cases hs'
      rw [h1]
      refine Is.bind (Is.eq rfl) fun y hy=>?_
      subst hy
      rw [Jo1 _ _ (by omega)]
      exact Is.val rfl
     ·subst hb
      by_cases hm:x.Section∈Xe l (way.take i)
      ·simp only [hm,decide_true,Bool.not_true,cond_false,if_pos]
       exact Is.val rfl
      ·simp only [hm,decide_false,Bool.not_false,cond_true,if_false]
       refine Is.bind (Is.ixn hi) fun s' hs'=>?_
       rw [hs] at hs'; cases hs'
       rw [h1]
       refine Is.bind (Is.eq rfl) fun y hy=>?_
       subst hy
       refine Is.bind (Is.app ?_) fun M hM=>?_
       ·simp only [List.length_cons,List.length_nil,Kn,Enc.b]; omega
       ·subst hM; exact Is.val rfl
   ·rintro v hv
    cases hv
    exact Is.val ⟨_,by rw [Gx (by omega)],rfl⟩
  ·rintro m rfl
   unfold Zp
   exact Is.cond (fun hb=>by simp at hb) (fun _=>Is.val (by rw [List.take_length]))
 obtain ⟨o,h1,rfl⟩:=this
 simp [h1,onInl,Vn]
end PM
/-
 PLAIN, WALK J: settings.
-/
namespace PM
open Go Go.RowKit
theorem Jd7 (x y:Jh):Wd x y=true↔x=y:=by
 cases x; cases y; simp [Wd]
instance : DecidableEq Jh:=fun x y=>decidable_of_iff _ (Jd7 x y)
theorem Jp1 (x y:Jh):Wd x y=decide (x=y):=by
 rw [Bool.eq_iff_iff,Jd7,decide_eq_true_iff]
theorem Jq9 (o:Nat) {n i:Nat} (h:i<n):Fc o n (i:Int)=some (o+i):=by
 unfold Fc
 rw [if_pos (by omega)]; rfl
theorem Ju1 {α:Type} {L:List α} {n j:Nat} (h:L.length=n):Eb L n j=L[j]?:=by
 unfold Eb
 rw [if_pos h]
/-! ### Compact -/
/-! ### Both lists of settings -/
def ltS (x y:Jh):Bool:=decide (x.El<y.El∨(x.El=y.El∧x.Pos<y.Pos))
theorem Rh (x y:Jh):ltS x y=decide (x.El<y.El∨(x.El=y.El∧x.Pos<y.Pos)):=rfl
theorem Kbo (x:Jh):ltS x x=false:=by rw [Rh]; simp
theorem Jp0 (x y z:Jh) (h1:ltS x y=true) (h2:ltS y z=true):ltS x z=true:=by
 rw [Rh,decide_eq_true_iff] at *; omega
theorem Jps (x y:Jh) (h:ltS y x=false):x=y∨ltS x y=true:=by
 rw [Rh] at h ⊢
 simp only [decide_eq_false_iff_not,decide_eq_true_eq] at h ⊢
 obtain ⟨a,b⟩:=x
 obtain ⟨c,d⟩:=y
 simp only [Jh.mk.injEq] at h ⊢
 omega
def Asc (l:List Jh):Prop:=l.Pairwise fun x y=>ltS x y=true
theorem Asc.one {a b:List Jh} (ha:Asc a) (hb:Asc b) (h:∀ x,x∈a↔x∈b):a=b:=Nu Kbo Jp0 a b ha hb h
def Jvu (l:Je) (s:Jd):Option Jh:=bif (Tu l s).2 && !decide ((Tu l s).1=0) then some ⟨s.El,(Tu l s).1⟩ else none
def Jm4 (l:Je) (way:List Jd):List Jh:=way.filterMap (Jvu l)
def Jjm (l:Je) (way:List Jd):List Jh:=ddS ((Jm4 l way).mergeSort fun x y => !ltS y x)
theorem Jw0 (l:Je) (way:List Jd) (s:Jd):Jm4 l (way++[s])=Jm4 l way++(Jvu l s).toList:=by
 unfold Jm4
 rw [List.filterMap_append,List.filterMap_cons,List.filterMap_nil]
 cases Jvu l s <;> rfl
theorem Jy9 (l:Je) (way:List Jd):(Jm4 l way).length≤way.length:=List.length_filterMap_le _ _
theorem Jy4 (l:Je) (way:List Jd) (x:Jh):x∈Jjm l way↔x∈Jm4 l way:=by
 rw [Jjm,Jpb,(List.mergeSort_perm _ _).mem_iff]
theorem Jlo (l:Je) (way:List Jd):(Jjm l way).length≤way.length:=by
 refine Nat.le_trans (Jqb _) ?_
 rw [(List.mergeSort_perm _ _).length_eq]
 exact Jy9 l way
theorem Jzp (l:Je) (way:List Jd):Asc (Jjm l way):=by
 refine Je4 Jp0 Jps _ ?_
 have:=List.pairwise_mergeSort (le:=fun x y => !ltS y x) (fun a b c h1 h2=>?_) (fun a b=>?_) (Jm4 l way)
 ·exact this.imp fun h=>by simpa using h
 ·simp only [Rh,Bool.not_eq_true',decide_eq_false_iff_not] at *; omega
 ·cases h:ltS b a with
  | false=>rfl
  | true =>
   have:ltS a b=false:=by rw [Rh,decide_eq_true_iff] at h; rw [Rh,decide_eq_false_iff_not]; omega
   simp [this]
theorem Kbd {l:Je} {s:Jd} (h:(Tu l s).2=true):Uv l s.El=true:=by
 cases hE:Uv l s.El with
 | true=>rfl
 | false=>unfold Tu at h; rw [hE] at h; cases h
theorem Jjc (L:List Jh) (x:Jh) (hL:Asc L) (h:L.length≤1000000):Is (Fj L x) fun M=>Asc M∧(∀ y,y∈M↔y∈L∨y=x)∧M.length≤L.length+1:=by
 unfold Fj
 refine Is.onInl (θ:=fun o=>match o with|.inl r=>∃ i:Nat,r.2=(i:Int)∧i≤L.length∧r.1=L.take i∧(∀ y∈L.take i,ltS y x=true)∧(∀ y,L[i]?=some y→ltS y x=false)|.inr _=>False) ?_ ?_ (fun b hb=>hb.elim)
 ·refine Is.loop (mk:=fun (i:Nat) (m:List Jh)=>((i:Int),m)) L.length (fun i m=>m=L.take i∧∀ y∈L.take i,ltS y x=true) [] ⟨rfl,fun y hy=>by simp at hy⟩ ?_ ?_
  ·rintro i m hi ⟨rfl,hI⟩
   unfold Gi
   obtain ⟨y,hy⟩:∃ y,L[i]?=some y:=⟨_,List.getElem?_eq_getElem hi⟩
   have e0:decide ((i:Int)<((L.length:Nat):Int))=true:=decide_eq_true (by omega)
   simp only [Wk hy,e0,cond_true,Option.bind_some]
   refine Is.bind (φ:=fun b=>b=ltS y x) ?_ fun b hb=>?_
   ·rw [Rh]
    by_cases h1:y.El<x.El
    ·simp only [h1,decide_true,cond_true,true_or]; exact Is.val rfl
    ·by_cases h2:y.El=x.El
     ·simp only [h2,Int.lt_irrefl,decide_false,decide_true,cond_true,cond_false,Option.bind_some,false_or,true_and]; exact Is.val rfl
     ·simp only [h1,h2,decide_false,cond_false,Option.bind_some,false_or,false_and]; exact Is.val rfl
   ·subst hb
    refine Is.cond (fun hc=>?_) (fun hc=>Is.val ⟨i,rfl,by omega,rfl,hI,fun z hz=>?_⟩)
    ·refine Is.bind (Is.app ?_) fun M hM=>?_
     ·simp only [List.length_take,List.length_cons,List.length_nil,Kn,Enc.b]; omega
     ·subst hM
      refine Is.val ⟨_,by rw [Gx (by omega)],by rw [Vs hy],fun z hz=>?_⟩
      rw [Vs hy] at hz
      rcases List.mem_append.1 hz with hz|hz
      ·exact hI z hz
      ·simp at hz; subst hz; exact hc
    ·rw [hy] at hz; cases hz; exact hc
  ·rintro m ⟨rfl,hI⟩
   unfold Gi
   have e0:decide (((L.length:Nat):Int)<((L.length:Nat):Int))=false:=decide_eq_false (by omega)
   simp only [e0,cond_false,Option.bind_some]
   exact Is.val ⟨L.length,rfl,Nat.le_refl _,rfl,hI,fun y hy=>by simp at hy⟩
 ·rintro ⟨m,k⟩ ⟨i,hk,hi,hm,hI,hn⟩
  simp only at hk hm
  subst hk hm
  refine Is.onInl (θ:=fun o=>∃ M,o=.inl M∧Asc (M++L.drop i)∧(∀ y,y∈M++L.drop i↔y∈L∨y=x)∧M.length≤i+1) ?_ ?_ (fun b hb=>by obtain ⟨M,hM,_⟩:=hb; cases hM)
  ·have hsplit:L.take i++L.drop i=L:=List.take_append_drop i L
   have hmem:∀ y,y∈L.take i++L.drop i↔y∈L:=fun y=>by rw [hsplit]
   have hL':=hL
   unfold Asc at hL'
   rw [← hsplit,List.pairwise_append] at hL'
   refine Is.bind (φ:=fun b=>b=decide (L[i]?≠some x)) ?_ fun b hb=>?_
   ·refine Is.cond (fun hc=>Is.val ?_) (fun hc=>?_)
    ·have:i=L.length:=by have:=of_decide_eq_true hc; omega
     subst this; simp
    ·have:i<L.length:=by have:=of_decide_eq_false hc; omega
     refine Is.bind (Is.ixn this) fun y hy=>Is.val ?_
     rw [hy,Jp1]
     by_cases e:y=x <;> simp [e]
   subst hb
   by_cases e:L[i]?=some x
   ·simp only [e,ne_eq,not_true,decide_false,cond_false]
    refine Is.val ⟨L.take i,rfl,by rw [hsplit]; exact hL,fun y=>?_,by simp; omega⟩
    rw [hmem]
    exact ⟨.inl,fun q=>q.elim id fun q=>by subst q; exact List.mem_of_getElem? e⟩
   ·simp only [e,ne_eq,not_false_eq_true,decide_true,cond_true]
    refine Is.bind (Is.app ?_) fun M hM=>?_
    ·simp only [List.length_take,List.length_cons,List.length_nil,Kn,Enc.b]; omega
    ·subst hM
     refine Is.val ⟨_,rfl, ?_,fun y=>?_,by simp; omega⟩
     ·have hxd:∀ y∈L.drop i,ltS x y=true:=by
       intro y hy
       cases hd:L[i]? with
       | none =>
        have:L.length≤i:=by simpa using hd
        rw [List.drop_eq_nil_of_le this] at hy; cases hy
       | some z =>
        have hi':=Uc hd
        have ez:L[i]=z:=by rw [List.getElem?_eq_getElem hi'] at hd; exact Option.some.inj hd
        have hxz:ltS x z=true:=by
         rcases Jps x z (hn z hd) with q|q
         ·exact absurd (q▸hd) e
         ·exact q
        rw [List.drop_eq_getElem_cons hi',ez] at hy
        have hp:=hL'.2.1
        rw [List.drop_eq_getElem_cons hi',ez,List.pairwise_cons] at hp
        rcases List.mem_cons.1 hy with q|q
        ·subst q; exact hxz
        ·exact Jp0 x z y hxz (hp.1 y q)
      unfold Asc
      rw [List.append_assoc,List.pairwise_append]
      refine ⟨hL'.1, ?_,fun a ha b hb=>?_⟩
      ·rw [List.singleton_append,List.pairwise_cons]
       exact ⟨hxd,hL'.2.1⟩
      ·rcases List.mem_append.1 hb with q|q
       ·simp at q; subst q; exact hI a ha
       ·exact hL'.2.2 a ha b q
     ·rw [← hmem]
      simp only [List.mem_append,List.mem_singleton]
      constructor
      ·rintro ((q|q)|q)
       ·exact .inl (.inl q)
       ·exact .inr q
       ·exact .inl (.inr q)
      ·rintro ((q|q)|q)
       ·exact .inl (.inl q)
       ·exact .inr q
       ·exact .inl (.inr q)
  ·rintro M ⟨M',hM',hA,hm,hl⟩
   cases hM'
   rw [Kdp hi]
   refine Is.bind (Is.eq rfl) fun y hy=>?_
   subst hy
   refine Is.bind (Is.app ?_) fun M' hM'=>?_
   ·simp only [List.length_drop,Kn,Enc.b]; omega
   ·subst hM'
    refine Is.val ⟨hA,hm, ?_⟩
    simp only [List.length_append,List.length_drop]; omega
theorem Sv (l:Je) (way:List Jd) (h:way.length≤1000000):Yy l way=some (Jjm l way):=by
 unfold Yy
 have:Is (Km (Zm l way) (0,[])) fun o=>o=.inl (Jjm l way):=by
  refine Is.loop (mk:=fun (i:Nat) (m:List Jh)=>((i:Int),m)) way.length (fun i m=>Asc m∧(∀ x,x∈m↔x∈Jm4 l (way.take i))∧m.length≤i) [] ⟨List.Pairwise.nil,fun x=>by simp [Jm4],Nat.le_refl _⟩ ?_ ?_
  ·rintro i m hi ⟨hA,hm,hl⟩
   unfold Zm
   refine Is.cond (fun _=>?_) (fun hb=>by simp at hb; omega)
   refine Is.onInl (θ:=fun o=>match o with|.inl m=>Asc m∧(∀ x,x∈m↔x∈Jm4 l (way.take (i+1)))∧m.length≤i+1|.inr _=>False) ?_ ?_ (fun b hb=>hb.elim)
   ·refine Is.bind (Is.ixn hi) fun s hs=>?_
    rw [Jd9,Vs hs,Jw0]
    refine Is.bind (Is.eq rfl) fun p hp=>?_
    subst hp
    unfold Jvu
    cases (Tu l s).2 && !decide ((Tu l s).1=0) with
    | false=>exact Is.val ⟨hA,fun x=>by simpa using hm x,by omega⟩
    | true =>
     refine Is.bind (Is.ixn hi) fun s' hs'=>?_
     rw [hs] at hs'; cases hs'
     refine Is.bind (Jjc m _ hA (by omega)) fun M hM=>Is.val ⟨hM.1,fun x=>?_,by have:=hM.2.2; omega⟩
     rw [hM.2.1,hm]; simp
   ·rintro v hv
    exact Is.val ⟨v,by rw [Gx (by omega)],hv⟩
  ·rintro m ⟨hA,hm,-⟩
   unfold Zm
   refine Is.cond (fun hb=>by simp at hb) (fun _=>Is.val ?_)
   rw [List.take_length] at hm
   rw [Asc.one hA (Jzp l way) fun x=>by rw [hm,Jy4]]
 obtain ⟨o,h1,rfl⟩:=this
 simp [h1,onInl,Vn]
end PM
/-
 PLAIN, WALK K: the laws of chapter 9 about measures, reverses and settings.
-/
namespace PM
open Go Go.RowKit
/-! ### Joints are symmetric -/
/-! ### The reverse of a way -/
theorem Wi.apart {l:Je} {way:List Jd} (h:Wi l way) {i k:Nat} {s t:Jd} (hs:way[i]?=some s) (ht:way[k]?=some t) (e:s.El=t.El):i=k:=by
 have key:∀ {i k:Nat} {s t:Jd},way[i]?=some s→way[k]?=some t→s.El=t.El→¬ i<k:=by
  intro i k s t hs ht e hik
  obtain ⟨t',h1,_,h3,_⟩:=h.2.2 k (Uc ht)
  rw [ht] at h1; cases h1
  exact h3 i s hik hs e
 have h1:=key hs ht e
 have h2:=key ht hs e.symm
 omega
theorem Jp8 {α:Type} [DecidableEq α]:∀ {a b:List α},a.Nodup→(∀ x∈a,x∈b)→a.length≤b.length
 | [],_,_,_=>Nat.zero_le _
 | x::r,b,ha,h=>by
  rw [List.nodup_cons] at ha
  have hx:=h x List.mem_cons_self
  have:=Jp8 (b:=b.erase x) ha.2 fun y hy=>(List.mem_erase_of_ne (fun e:y=x=>ha.1 (e▸hy))).2 (h y (List.mem_cons_of_mem _ hy))
  rw [List.length_erase_of_mem hx] at this
  have hp:=List.length_pos_of_mem hx
  simp only [List.length_cons]; omega
/-! ### The laws -/
end PM
/-
 PLAIN, LAYOUT A: names, parts, ends: what the program's and the reference's tests come to.
-/
namespace PM
open Go Go.RowKit
/-! ### Names -/
def okB (i:Nat) (c:Nat):Prop:=(97≤c∧c≤122)∨(((48≤c∧c≤57)∨c=95)∧i≠0)
def Jct (s:ByteArray):Prop:=1≤s.size∧s.size≤12∧∀ i (h:i<s.size),okB i (s[i]'h).toNat
end PM
/-
 PLAIN, LAYOUT B: the conditions of a layout, and what the program's tests come to.
-/
namespace PM
open Go Go.RowKit
/-! ### The conditions -/
def Im (l:Je):Prop:=1≤l.Elements.length∧l.Elements.length≤32∧1≤l.Sections.length∧l.Sections.length≤24∧l.Signals.length≤20∧l.Balises.length≤24
def Jaj (l:Je):Prop:=Jct l.Name∧(∀ s∈l.Sections,Jct s)∧(∀ s∈l.Elements.map (·.Name),Jct s)∧(∀ s∈l.Signals.map (·.Name),Jct s)
def Jrx (l:Je):Prop:=l.Sections.Nodup∧(l.Elements.map (·.Name)).Nodup∧(l.Signals.map (·.Name)).Nodup
def Jk6 (l:Je) (x:Jw):Prop :=
 (1≤x.Kind∧x.Kind≤3)∧(500≤x.Length∧x.Length≤1000000)∧(-50≤x.Grade∧x.Grade≤50)∧(100≤x.Speed∧x.Speed≤10000)∧(0≤x.Section∧x.Section<(l.Sections.length:Nat)) ∧
  (x.Kind=2→100≤x.Slow∧x.Slow≤x.Speed)∧(x.Kind≠2→x.Slow=0)
def Ke7 (l:Je):Prop:=∀ s,s<l.Sections.length→∃ x∈l.Elements,x.Section=(s:Nat)
def Jir (l:Je):Prop:=(∀ x∈l.Elements,Jk6 l x)∧Ke7 l
def Jcz (l:Je):Prop:=∀ j∈l.Joints,exS l j.A=true∧exS l j.B=true∧j.A≠j.B
def Jru (l:Je):Prop:=∀ s∈l.Signals,exS l s.At=true∧0≤s.Overlap∧s.Overlap≤1000000
def Juj (l:Je) (i:Int):Int:=bif Uv l i then ((l.Elements[i.toNat]?).map (·.Section)).getD (-1) else -1
def Jry (l:Je):Prop:=∀ s∈l.Signals,(Qm l s.At).2=true∧Juj l (Qm l s.At).1.El≠Juj l s.At.El
def Jd1 (l:Je) (i:Int):Int:=((l.Elements[i.toNat]?).map (·.Length)).getD 0
def Jtq (l:Je):Prop:=∀ b∈l.Balises,1≤b.Id∧b.Id≤1073741824∧Uv l b.El=true∧0≤b.Offset∧b.Offset≤Jd1 l b.El
open Classical in
noncomputable def chk (l:Je):Int :=
 if ¬ Im l then 2 else if ¬ Jaj l then 3 else if ¬ Jrx l then 8 else if ¬ Jir l then 1 else if ¬ Jcz l then 1 else if ¬ (Mo l.Joints).Nodup then 8 else
 if ¬ Jru l then 1 else if ¬ (l.Signals.map (·.At)).Nodup then 8 else if ¬ Jry l then 14 else if ¬ Jtq l then 1 else if ¬ (l.Balises.map (·.Id)).Nodup then 8 else 0
/-! ### Small parts -/
theorem Lh {b x y:Bool}:(bif b then some x else some y)=some (bif b then x else y):=by cases b <;> rfl
theorem Jmg (s:ByteArray) (h:s.size≤1048576):Is (Mn s) fun b=>b=true↔Jct s:=by
 unfold Mn
 refine Is.onInl (θ:=fun o=>match o with|.inl _=>∀ k (hk:k<s.size),okB k (s[k]'hk).toNat|.inr b=>b=false∧¬ Jct s) ?_ (fun _ hv=>Is.val ?_) (fun b hb=>show b=true↔Jct s from ?_)
 ·refine Is.loop (mk:=fun (i:Nat) (_:Unit)=>(i:Int)) s.size (fun i _=>∀ k (hk:k<s.size),k<i→okB k (s[k]'hk).toNat) () (fun k hk hi=>by omega) ?_ ?_
  ·rintro i m hi hI
   unfold Ml
   refine Is.inb hi ?_
   obtain ⟨c,hc,rfl⟩:=Is.six hi
   simp only [hc,Option.bind_some,Lh,Bool.cond_false_right,Bool.cond_true_left]
   refine Is.ite (p:=¬ okB i (s[i]'hi).toNat) (by simp [okB]; omega) (fun hn=>Is.val ⟨rfl,fun hN=>hn (hN.2.2 i hi)⟩) (fun hn=>Is.val ⟨(),by rw [Gx (by omega)],fun k hk hki=>?_⟩)
   by_cases e:k=i
   ·subst e; exact Classical.not_not.1 hn
   ·exact hI k hk (by omega)
  ·rintro m hI
   unfold Ml
   exact Is.oub (Is.val fun k hk=>hI k hk hk)
 ·have hv:∀ k (hk:k<s.size),okB k (s[k]'hk).toNat:=hv
  simp only [Bool.and_eq_true,decide_eq_true_eq,Jct]
  constructor
  ·rintro ⟨h1,h2⟩; exact ⟨by omega,by omega,hv⟩
  ·rintro ⟨h1,h2,_⟩; exact ⟨by omega,by omega⟩
 ·have hb:b=false∧¬ Jct s:=hb
  rw [hb.1]
  exact ⟨fun e=>absurd e Bool.false_ne_true,fun e=>absurd e hb.2⟩
end PM
/-
 PLAIN, LAYOUT C: elements, joints, signals, balises: the program's check returns the first error.
-/
namespace PM
open Go Go.RowKit
instance (priority:=1) endDec:DecidableEq Jj:=fun x y=>decidable_of_iff _ (Li x y)
/-- The indexes of the elements of a section. -/
def Jgz (s:Int) (L:List Jw):Nat→List Int
 | 0=>[]
 | n+1=>Jgz s L n++(match L[n]? with|some x=>if x.Section=s then [(n:Int)] else []|none=>[])
theorem Jqt (s:Int) (L:List Jw):∀ n,(Jgz s L n).length≤n
 | 0=>Nat.le_refl _
 | n+1=>by
  have ih:=Jqt s L n
  simp only [Jgz,List.length_append]
  split
  ·split <;> simp <;> omega
  ·simp; omega
theorem Jlf {s:Int} {L:List Jw} {k:Int}:∀ {n},k∈Jgz s L n↔∃ i x,i<n∧L[i]?=some x∧x.Section=s∧k=(i:Nat)
 | 0=>by simp [Jgz]
 | n+1=>by
  simp only [Jgz,List.mem_append,Jlf (n:=n)]
  constructor
  ·rintro (⟨i,x,h1,h2⟩|h)
   ·exact ⟨i,x,by omega,h2⟩
   ·split at h
    ·rename_i x hx
     split at h
     ·rename_i hs
      exact ⟨n,x,by omega,hx,hs,by simpa using h⟩
     ·cases h
    ·cases h
  ·rintro ⟨i,x,h1,h2,h3,h4⟩
   by_cases e:i=n
   ·subst e
    right
    rw [h2]
    simp [h3,h4]
   ·exact .inl ⟨i,x,by omega,h2,h3,h4⟩
theorem Jzi {s:Int} {L:List Jw}:(Jgz s L L.length).length=0↔¬ ∃ x∈L,x.Section=s:=by
 rw [List.length_eq_zero_iff,List.eq_nil_iff_forall_not_mem]
 constructor
 ·rintro h ⟨x,hx,e⟩
  obtain ⟨i,hi⟩:=List.getElem?_of_mem hx
  exact h i (Jlf.2 ⟨i,x,Uc hi,hi,e,rfl⟩)
 ·rintro h k hk
  obtain ⟨i,x,_,h2,h3,_⟩:=Jlf.1 hk
  exact h ⟨x,List.mem_of_getElem? h2,h3⟩
def Jfx (l:Je) (s:Int):List Int:=if 0≤s∧s<(l.Sections.length:Nat) then Jgz s l.Elements l.Elements.length else []
theorem Jgu {l:Je} (h:l.Elements.length≤1048576) (s:Int):Zz l s=some (Jfx l s):=by
 suffices hs:Is (Zz l s) fun r=>r=Jfx l s by
  obtain ⟨r,h1,h2⟩:=hs; rw [h1,h2]
 unfold Zz
 refine Is.fold (L:=l.Elements) (mk:=fun i m=>(i,m)) (fun i m=>m=if 0≤s∧s<(l.Sections.length:Nat) then Jgz s l.Elements i else []) [] (by omega) (by simp [Jgz]) (fun i x m hx hi hI=>?_) (fun m hI=>?_)
 ·unfold Es
  refine Is.inb hi ?_
  refine Is.onInl (θ:=fun o=>o=.inl (if 0≤s∧s<(l.Sections.length:Nat) then Jgz s l.Elements (i+1) else [])) (Is.at hx ?_) (fun v hv=>?_) (fun b hb=>by cases hb)
  ·simp only [Lh,Option.bind_some,Bool.cond_false_right]
   refine Is.ite (p:=x.Section=s∧0≤s∧s<(l.Sections.length:Nat)) (by simp; omega) (fun hc=>?_) (fun hc=>Is.val ?_)
   ·rw [if_pos hc.2] at hI ⊢
    have:=Jqt s l.Elements i
    refine Is.bind (Is.app (by subst hI; simp only [List.length_cons,List.length_nil,Kn,Enc.b]; omega)) fun M hM=>Is.val ?_
    rw [hM,hI]; simp [Jgz,hx,hc.1]
   ·subst hI
    by_cases hr:0≤s∧s<(l.Sections.length:Nat)
    ·have:¬ x.Section=s:=fun e=>hc ⟨e,hr⟩
     rw [if_pos hr,if_pos hr]; simp [Jgz,hx,this]
    ·rw [if_neg hr,if_neg hr]
  ·cases hv; exact Is.val ⟨_,rfl,rfl⟩
 ·unfold Es
  exact Is.oub (Is.val (Is.val hI))
theorem Jpq {l:Je} {s:Nat} (h:s<l.Sections.length):(((Jfx l (s:Int)).length:Nat):Int)=0↔¬ ∃ x∈l.Elements,x.Section=(s:Nat):=by
 rw [Jfx,if_pos (by omega)]
 rw [← Jzi]; omega
/-! ### Ends -/
theorem Kaq (e:Jj):Ku e e=true:=(Li e e).2 rfl
theorem Jsr {e f:Jj} (h:e≠f):Ku e f=false:=by
 cases q:Ku e f
 ·rfl
 ·exact absurd ((Li e f).1 q) h
/-! ### Signals -/
def Sh (L:List Ki) (e:Jj):Int:=match L.findIdx? fun s=>Ku s.At e with|some i=>(i:Nat)|none => -1
theorem Jnp {L:List Ki} {e:Jj} {i:Nat} {x:Ki} (hx:L[i]?=some x) (hi:x.At=e) (hp:∀ j y,j<i→L[j]?=some y→y.At≠e):Sh L e=(i:Nat):=by
 have:L.findIdx? (fun s=>Ku s.At e)=some i:=by
  obtain ⟨h1,h2⟩:=List.getElem?_eq_some_iff.1 hx
  rw [List.findIdx?_eq_some_iff_getElem]
  refine ⟨h1,by rw [h2,hi]; exact Kaq e,fun j hj=>?_⟩
  rw [Jsr (hp j L[j] hj (List.getElem?_eq_getElem (by omega)))]; simp
 rw [Sh,this]
theorem Jn3 {L:List Ki} {e:Jj} (h:∀ s∈L,s.At≠e):Sh L e = -1:=by
 have:L.findIdx? (fun s=>Ku s.At e)=none:=by
  rw [List.findIdx?_eq_none_iff]
  exact fun s hs=>Jsr (h s hs)
 rw [Sh,this]
/-! ### Balises -/
end PM
/-
 PLAIN, LAYOUT D: the reference's check returns the first error.
-/
namespace PM
open Go Go.RowKit
theorem Jue {α:Type} (L:List α) (eqb:α→α→Bool) (heq:∀ x y,eqb x y=true↔x=y) (hL:L.length≤4194304) {s1:Int→Int→Option (Int⊕(Unit⊕(Int⊕(Unit⊕Bool))))} {s0:Int→Option (Int⊕(Unit⊕Bool))}
  (h1:∀ i k,s1 i k=bif decide (k<i) then ((ixO L i).bind fun x=>(ixO L k).bind fun y=>bif eqb x y then some (.inr (.inr (.inr (.inr true)))) else some (.inl (w64 (k+1)))) else some (.inr (.inl ())))
  (h0:∀ i,s0 i=bif decide (i<((L.length:Nat):Int)) then onInl (Km (s1 i) 0) (fun _=>some (.inl (w64 (i+1)))) else some (.inr (.inl ()))) :
  Is (onInl (Km s0 0) fun _=>some false) fun b=>b=true↔¬ L.Nodup:=by
 refine Is.all (L:=L) (fun i x=>∀ j y,j<i→L[j]?=some y→y≠x) () (by omega) (fun i x hx hi _=>?_) ?_ (fun h=>Is.val ?_)
 ·rw [h0]
  refine Is.inb hi ?_
  have hlen:(L.take i).length=i:=by rw [List.length_take]; omega
  refine Is.all (L:=L.take i) (fun _ y=>y≠x) () (by omega) (fun k y hy hk _=>?_) ?_ (fun hn=>Is.val ⟨rfl,fun j y hj hy=>?_⟩)
  ·rw [h1]
   rw [hlen] at hk
   rw [List.getElem?_take,if_pos hk] at hy
   refine Is.inb hk (Is.at hx (Is.at hy (Is.ite (heq x y) (fun hc=>Is.val ?_) (fun hc=>Is.val ⟨rfl,fun e=>hc e.symm⟩))))
   refine iff_of_true rfl fun hn=>?_
   obtain ⟨g1,g2⟩:=List.getElem?_eq_some_iff.1 hx
   obtain ⟨g3,g4⟩:=List.getElem?_eq_some_iff.1 hy
   exact List.pairwise_iff_getElem.1 hn k i g3 g1 hk (by rw [g2,g4,hc])
  ·rw [h1,hlen]; simp
  ·exact hn j y (by rw [List.getElem?_take,if_pos hj]; exact hy)
 ·rw [h0]; simp
 ·refine iff_of_false Bool.false_ne_true (fun q=>q ?_)
  rw [List.Nodup,List.pairwise_iff_getElem]
  intro i j hi hj hij
  exact h j L[j] (List.getElem?_eq_getElem hj) i L[i] hij (List.getElem?_eq_getElem hi)
theorem Pf (L:List ByteArray) (h:L.length≤4194304):Is (Dx L) fun b=>b=true↔¬ L.Nodup :=
 Jue L (fun x y=>decide (x=y)) (fun _ _=>Vb) h (fun _ _=>rfl) (fun _=>rfl)
theorem Jb0 (L:List Jj) (h:L.length≤4194304):Is (Ln L) fun b=>b=true↔¬ L.Nodup :=
 Jue L Ku Li h (fun _ _=>rfl) (fun _=>rfl)
theorem Jft (L:List Int) (h:L.length≤4194304):Is (Ik L) fun b=>b=true↔¬ L.Nodup :=
 Jue L (fun x y=>decide (x=y)) (fun _ _=>Vb) h (fun _ _=>rfl) (fun _=>rfl)
theorem Jjs {l:Je} (h:Sm l):Is (Ho l) fun e=>(¬ Im l∧e=2)∨(Im l∧¬ Jaj l∧e=3)∨(Im l∧Jaj l∧¬ Jrx l∧e=8)∨(Im l∧Jaj l∧Jrx l∧e=0):=by
 unfold Ho
 have h1:=h.sec; have h2:=h.el; have h3:=h.sg
 simp only [Option.bind_some,Lh,Bool.cond_true_left]
 refine Is.ite (p:=¬ Im l) (by simp [Im]; omega) (fun hc=>Is.val (.inl ⟨hc,rfl⟩)) (fun hc=>?_)
 have hc:Im l:=Classical.not_not.1 hc
 refine Is.bind (Jls h) fun r hr=>?_
 obtain ⟨e0,e1,e2⟩:=hr
 rw [e0,e1,e2]
 refine Is.bind (Is.app (by simp only [List.length_cons,List.length_nil,Kn,Enc.b]; omega)) fun x7 hx7=>?_
 subst hx7
 refine Is.bind (Is.app (by simp only [List.length_append,List.length_map,List.length_cons,List.length_nil,Kn,Enc.b]; omega)) fun x8 hx8=>?_
 subst hx8
 refine Is.bind (Is.app (by simp only [List.length_append,List.length_map,List.length_cons,List.length_nil,Kn,Enc.b]; omega)) fun x9 hx9=>?_
 have hsz:∀ s∈x9,s.size≤1048576:=by
  subst hx9
  intro s hs
  simp only [List.mem_append,List.mem_cons,List.not_mem_nil,or_false,List.mem_map] at hs
  rcases hs with ((rfl|hs)|⟨x,hx,rfl⟩)|⟨x,hx,rfl⟩
  ·exact h.nm
  ·exact h.secn s hs
  ·exact h.eln x hx
  ·exact h.sgn x hx
 have hlen:x9.length≤4194304:=by
  subst hx9
  simp only [List.length_append,List.length_map,List.length_cons,List.length_nil]; omega
 have hN:(∀ s∈x9,Jct s)↔Jaj l:=by
  subst hx9
  simp only [Jaj,List.mem_append,List.mem_cons,List.not_mem_nil,or_false]
  exact ⟨fun q=>⟨q _ (.inl (.inl (.inl rfl))),fun s hs=>q s (.inl (.inl (.inr hs))),fun s hs=>q s (.inl (.inr hs)),fun s hs=>q s (.inr hs)⟩,
   fun ⟨q1,q2,q3,q4⟩ s hs=>hs.elim (fun hs=>hs.elim (fun hs=>hs.elim (fun e=>e▸q1) (q2 s)) (q3 s)) (q4 s)⟩
 clear hx9
 refine Is.all (L:=x9) (fun _ s=>Jct s) () (by omega) (fun i x hx hi _=>?_) ?_ (fun hn=>?_)
 ·unfold Hx
  refine Is.inb hi (Is.at hx (Is.bind (Jmg x (hsz x (List.mem_of_getElem? hx))) fun r hr=>?_))
  exact Is.ifn hr (fun hn=>Is.val (.inr (.inl ⟨hc,fun e=>hn (hN.2 e x (List.mem_of_getElem? hx)),rfl⟩))) (fun hy=>Is.val ⟨rfl,hy⟩)
 ·simp [Hx]
 have hn:Jaj l:=hN.1 (Fk.1 hn)
 refine Is.bind (Pf _ (by omega)) fun r hr=>?_
 refine Is.bind (Is.or hr fun _=>Is.bind (Pf _ (by simp only [List.length_map]; omega)) fun b hb=>Is.val hb) fun b hb=>?_
 refine Is.bind (Is.or hb fun _=>Is.bind (Pf _ (by simp only [List.length_map]; omega)) fun b hb=>Is.val hb) fun b2 hb2=>?_
 refine Is.ite hb2 (fun hd=>Is.val (.inr (.inr (.inl ⟨hc,hn,fun q=>?_,rfl⟩)))) (fun hd=>Is.val (.inr (.inr (.inr ⟨hc,hn, ?_,rfl⟩))))
 ·rcases hd with (hd|hd)|hd
  ·exact hd q.1
  ·exact hd q.2.1
  ·exact hd q.2.2
 ·exact ⟨Classical.not_not.1 fun q=>hd (.inl (.inl q)),Classical.not_not.1 fun q=>hd (.inl (.inr q)),Classical.not_not.1 fun q=>hd (.inr q)⟩
theorem Ji7 (l:Je) (x:Jw):Is (Hw l x) fun b=>b=true↔Jk6 l x:=by
 unfold Hw
 simp only [Option.bind_some,Lh,Bool.cond_true_left]
 refine Is.val ?_
 unfold Jk6
 by_cases h2:x.Kind=2
 ·simp [h2,Bool.cond_eq_ite]; omega
 ·simp [h2,Bool.cond_eq_ite]; omega
theorem Jet : ∀ L:List Qg,(Mo L).length=2 * L.length
 | []=>rfl
 | j::L=>by
  have:=Jet L
  simp only [Mo,List.flatMap_cons,List.length_append,List.length_cons,List.length_nil] at this ⊢
  omega
theorem Jfc {l:Je} (h:Sm l):Is (Yv l) fun e=>(¬ Jir l∧e=1)∨(Jir l∧¬ Jcz l∧e=1)∨(Jir l∧Jcz l∧¬ (Mo l.Joints).Nodup∧e=8)∨(Jir l∧Jcz l∧(Mo l.Joints).Nodup∧e=0):=by
 unfold Yv
 have h1:=h.sec; have h2:=h.el; have h3:=h.jo
 refine Is.all (L:=l.Elements) (fun _ x=>Jk6 l x) () (by omega) (fun i x hx hi _=>?_) ?_ (fun ha=>?_)
 ·unfold Cw
  refine Is.inb hi (Is.at hx (Is.bind (Ji7 l x) fun r hr=>?_))
  exact Is.ifn hr (fun hn=>Is.val (.inl ⟨fun q=>hn (q.1 x (List.mem_of_getElem? hx)),rfl⟩)) (fun hy=>Is.val ⟨rfl,hy⟩)
 ·simp [Cw]
 refine Is.all (L:=l.Sections) (fun i _=>∃ x∈l.Elements,x.Section=(i:Nat)) () (by omega) (fun i x hx hi _=>?_) ?_ (fun hn=>?_)
 ·unfold Dc
  refine Is.inb hi (Is.to (Jgu h.el _) ?_)
  exact Is.ite (Vb.trans (Jpq hi)) (fun hb=>Is.val (.inl ⟨fun q=>hb (q.2 i hi),rfl⟩)) (fun hb=>Is.val ⟨rfl,Classical.not_not.1 hb⟩)
 ·simp [Dc]
 have hE:Jir l:=⟨Fk.1 ha,fun s hs=>hn s l.Sections[s] (List.getElem?_eq_getElem hs)⟩
 refine Is.fold (L:=l.Joints) (mk:=fun i m=>(i,m)) (fun i m=>m=Mo (l.Joints.take i)∧∀ j x,j<i→l.Joints[j]?=some x→exS l x.A=true∧exS l x.B=true∧x.A≠x.B) [] (by omega) ⟨rfl,fun j x hj=>by omega⟩ (fun i x m hx hi hI=>?_) (fun m hI=>?_)
 ·unfold Ct
  refine Is.inb hi (Is.at hx ?_)
  simp only [Ja4,Option.bind_some,Lh,Bool.cond_true_left]
  refine Is.ite (p:=¬ (exS l x.A=true∧exS l x.B=true∧x.A≠x.B)) (by simp only [Bool.or_eq_true,Bool.not_eq_true',Li]; cases exS l x.A <;> cases exS l x.B <;> simp) (fun hb=>Is.val (.inr (.inl ⟨hE,fun q=>hb (q x (List.mem_of_getElem? hx)),rfl⟩))) (fun hb=>?_)
  have hlen:m.length≤2 * i:=by
   rw [hI.1,Jet,List.length_take]; omega
  refine Is.bind (Is.app (by simp only [List.length_cons,List.length_nil,Kn,Enc.b]; omega)) fun M hM=>?_
  subst hM
  refine Is.val ⟨_,rfl,by rw [hI.1,Fr hx,Jsq],fun j y hj hy=>?_⟩
  by_cases e:j=i
  ·subst e; rw [hx] at hy; cases hy; exact Classical.not_not.1 hb
  ·exact hI.2 j y (by omega) hy
 unfold Ct
 refine Is.oub (Is.val ?_)
 obtain ⟨hm,hJ⟩:=hI
 rw [List.take_length] at hm
 have hJ:Jcz l:=Fk.1 fun i x hx=>hJ i x (Uc hx) hx
 subst hm
 have hlen:(Mo l.Joints).length≤4194304:=by
  rw [Jet]; omega
 refine Is.bind (Jb0 _ hlen) fun r hr=>?_
 exact Is.ite hr (fun hd=>Is.val (.inr (.inr (.inl ⟨hE,hJ,hd,rfl⟩)))) (fun hd=>Is.val (.inr (.inr (.inr ⟨hE,hJ,Classical.not_not.1 hd,rfl⟩))))
theorem Jgr {l:Je} (h:Sm l) (hJ:Jcz l) (hn:(Mo l.Joints).Nodup):Is (Zy l) fun e =>
  (¬ Jru l∧e=1)∨(Jru l∧¬ (l.Signals.map (·.At)).Nodup∧e=8)∨(Jru l∧(l.Signals.map (·.At)).Nodup∧¬ Jry l∧e=14)∨(Jru l∧(l.Signals.map (·.At)).Nodup∧Jry l∧e=0):=by
 unfold Zy
 have g3:=h.sg; have g4:=h.jo
 refine Is.fold (L:=l.Signals) (mk:=fun i m=>(i,m)) (fun i m=>m=(l.Signals.take i).map (·.At)∧∀ j s,j<i→l.Signals[j]?=some s→exS l s.At=true∧0≤s.Overlap∧s.Overlap≤1000000) [] (by omega) ⟨rfl,fun j x hj=>by omega⟩ (fun i x m hx hi hI=>?_) (fun m hI=>?_)
 ·unfold Ef
  refine Is.inb hi (Is.at hx ?_)
  simp only [Ja4,Option.bind_some]
  refine Is.ite (p:=¬ (exS l x.At=true∧0≤x.Overlap∧x.Overlap≤1000000)) (by cases exS l x.At <;> simp <;> omega) (fun hb=>Is.val (.inl ⟨fun q=>hb (q x (List.mem_of_getElem? hx)),rfl⟩)) (fun hb=>?_)
  refine Is.bind (Is.app (by rw [hI.1]; simp only [List.length_map,List.length_take,List.length_cons,List.length_nil,Kn,Enc.b]; omega)) fun M hM=>?_
  subst hM
  refine Is.val ⟨_,rfl,by rw [hI.1,Fr hx]; simp,fun j y hj hy=>?_⟩
  by_cases e:j=i
  ·subst e; rw [hx] at hy; cases hy; exact Classical.not_not.1 hb
  ·exact hI.2 j y (by omega) hy
 unfold Ef
 refine Is.oub (Is.val ?_)
 obtain ⟨hm,h1⟩:=hI
 rw [List.take_length] at hm
 have h1:Jru l:=Fk.1 fun i x hx=>h1 i x (Uc hx) hx
 subst hm
 refine Is.bind (Jb0 _ (by simp only [List.length_map]; omega)) fun r hr=>?_
 refine Is.ite hr (fun hd=>Is.val (.inr (.inl ⟨h1,hd,rfl⟩))) (fun hd=>?_)
 have h2:=Classical.not_not.1 hd
 have hJO:Jo6 l:=⟨fun j hj=>⟨(hJ j hj).1,(hJ j hj).2.1⟩,hn⟩
 refine Is.all (L:=l.Signals.map (·.At)) (fun _ e=>(Qm l e).2=true∧Juj l (Qm l e).1.El≠Juj l e.El) () (by simp only [List.length_map]; omega) (fun i e hx hi _=>?_) ?_ (fun h3=>?_)
 ·unfold Ei
  refine Is.inb hi (Is.at hx (Is.to (Vi g4 e) ?_))
  obtain ⟨s,hs,rfl⟩:=List.mem_map.1 (List.mem_of_getElem? hx)
  refine Is.bind (Is.or (p:=¬ (Qm l s.At).2=true) (q:=Juj l (Qm l s.At).1.El=Juj l s.At.El) (Jmc Iff.rfl) fun hp=>?_) fun b hb=>?_
  ·have hc2:=Classical.not_not.1 hp
   have hf:exS l (Qm l s.At).1=true:=Jsj hJO (e:=s.At) (by rw [← hc2])
   have e1:=Jqm hf
   have e2:=Jqm (h1 s hs).1
   obtain ⟨x,hx,hx2⟩:=Wf e1
   obtain ⟨y,hy,hy2⟩:=Wf e2
   rw [hx,hy]
   refine Is.val ?_
   simp [Juj,e1,e2,hx2,hy2]
  ·refine Is.ite hb (fun hc=>Is.val (.inr (.inr (.inl ⟨h1,h2,fun q=>?_,rfl⟩)))) (fun hc=>Is.val ⟨rfl,Classical.not_not.1 fun q=>hc (.inl q),fun q=>hc (.inr q)⟩)
   rcases hc with hc|hc
   ·exact hc (q s hs).1
   ·exact (q s hs).2 hc
 ·simp [Ei]
 ·refine Is.val (.inr (.inr (.inr ⟨h1,h2,fun s hs=>?_,rfl⟩)))
  exact Fk.1 h3 s.At (List.mem_map.2 ⟨s,hs,rfl⟩)
theorem Jfp {l:Je} (h:Sm l):Is (Zx l) fun e=>(¬ Jtq l∧e=1)∨(Jtq l∧¬ (l.Balises.map (·.Id)).Nodup∧e=8)∨(Jtq l∧(l.Balises.map (·.Id)).Nodup∧e=0):=by
 unfold Zx
 have g3:=h.ba
 refine Is.fold (L:=l.Balises) (mk:=fun i m=>(i,m)) (fun i m=>m=(l.Balises.take i).map (·.Id)∧∀ j b,j<i→l.Balises[j]?=some b→1≤b.Id∧b.Id≤1073741824∧Uv l b.El=true∧0≤b.Offset∧b.Offset≤Jd1 l b.El) [] (by omega) ⟨rfl,fun j x hj=>by omega⟩ (fun i x m hx hi hI=>?_) (fun m hI=>?_)
 ·unfold Eo
  refine Is.inb hi (Is.at hx ?_)
  simp only [Option.bind_some,Lh,Bool.cond_true_left]
  refine Is.bind (Is.or (p:=¬ (1≤x.Id∧x.Id≤1073741824∧Uv l x.El=true∧0≤x.Offset)) (q:=¬ x.Offset≤Jd1 l x.El) (by simp [Uv]; omega) fun hp=>?_) fun b hb=>?_
  ·have hp:=Classical.not_not.1 hp
   obtain ⟨y,h2,h3⟩:=Wf hp.2.2.1
   rw [h2]
   exact Is.val (by simp [Jd1,h3])
  ·refine Is.ite hb (fun hc=>Is.val (.inl ⟨fun q=>?_,rfl⟩)) (fun hc=>?_)
   ·have q1:=q x (List.mem_of_getElem? hx)
    rcases hc with hc|hc
    ·exact hc ⟨q1.1,q1.2.1,q1.2.2.1,q1.2.2.2.1⟩
    ·exact hc q1.2.2.2.2
   ·refine Is.bind (Is.app (by rw [hI.1]; simp only [List.length_map,List.length_take,List.length_cons,List.length_nil,Kn,Enc.b]; omega)) fun M hM=>?_
    subst hM
    refine Is.val ⟨_,rfl,by rw [hI.1,Fr hx]; simp,fun j y hj hy=>?_⟩
    by_cases e:j=i
    ·subst e; rw [hx] at hy; cases hy
     have q1:1≤x.Id∧x.Id≤1073741824∧Uv l x.El=true∧0≤x.Offset:=Classical.not_not.1 fun q=>hc (.inl q)
     exact ⟨q1.1,q1.2.1,q1.2.2.1,q1.2.2.2,Classical.not_not.1 fun q=>hc (.inr q)⟩
    ·exact hI.2 j y (by omega) hy
 unfold Eo
 refine Is.oub (Is.val ?_)
 obtain ⟨hm,h1⟩:=hI
 rw [List.take_length] at hm
 have h1:Jtq l:=Fk.1 fun i x hx=>h1 i x (Uc hx) hx
 subst hm
 refine Is.bind (Jft _ (by simp only [List.length_map]; omega)) fun r hr=>?_
 exact Is.ite hr (fun hd=>Is.val (.inr (.inl ⟨h1,hd,rfl⟩))) (fun hd=>Is.val (.inr (.inr ⟨h1,Classical.not_not.1 hd,rfl⟩)))
theorem Jjk {l:Je} (h:Sm l):Is (Br l) fun e=>e=chk l:=by
 unfold Br
 refine Is.bind (Jjs h) fun e he=>?_
 rcases he with ⟨hc,rfl⟩|⟨hc,h1,rfl⟩|⟨hc,h1,h2,rfl⟩|⟨hc,h1,h2,rfl⟩
 ·exact Is.val (by simp [chk,hc])
 ·exact Is.val (by simp [chk,hc,h1])
 ·exact Is.val (by simp [chk,hc,h1,h2])
 show Is ((Yv l).bind _) _
 refine Is.bind (Jfc h) fun e he=>?_
 rcases he with ⟨h3,rfl⟩|⟨h3,h4,rfl⟩|⟨h3,h4,h5,rfl⟩|⟨h3,h4,h5,rfl⟩
 ·exact Is.val (by simp [chk,hc,h1,h2,h3])
 ·exact Is.val (by simp [chk,hc,h1,h2,h3,h4])
 ·exact Is.val (by simp [chk,hc,h1,h2,h3,h4,h5])
 show Is ((Zy l).bind _) _
 refine Is.bind (Jgr h h4 h5) fun e he=>?_
 rcases he with ⟨h6,rfl⟩|⟨h6,h7,rfl⟩|⟨h6,h7,h8,rfl⟩|⟨h6,h7,h8,rfl⟩
 ·exact Is.val (by simp [chk,hc,h1,h2,h3,h4,h5,h6])
 ·exact Is.val (by simp [chk,hc,h1,h2,h3,h4,h5,h6,h7])
 ·exact Is.val (by simp [chk,hc,h1,h2,h3,h4,h5,h6,h7,h8])
 show Is ((Zx l).bind _) _
 refine Is.bind (Jfp h) fun e he=>?_
 rcases he with ⟨h9,rfl⟩|⟨h9,h10,rfl⟩|⟨h9,h10,rfl⟩
 ·exact Is.val (by simp [chk,hc,h1,h2,h3,h4,h5,h6,h7,h8,h9])
 ·exact Is.val (by simp [chk,hc,h1,h2,h3,h4,h5,h6,h7,h8,h9,h10])
 ·exact Is.val (by simp [chk,hc,h1,h2,h3,h4,h5,h6,h7,h8,h9,h10])
end PM
/-
 PLAIN, LAYOUT E: what a valid layout is; the statements LayoutChecks and LayoutJoins.
-/
namespace PM
open Go Go.RowKit
structure OkL (l:Je):Prop where
 counts:Im l
 names:Jaj l
 dist:Jrx l
 elem:Jir l
 joint:Jcz l
 ends:(Mo l.Joints).Nodup
 sig:Jru l
 sigd:(l.Signals.map (·.At)).Nodup
 safe:Jry l
 bal:Jtq l
 bald:(l.Balises.map (·.Id)).Nodup
theorem Jxs (l:Je):chk l=0↔OkL l:=by
 constructor
 ·intro h
  unfold chk at h
  by_cases h1:Im l
  ·by_cases h2:Jaj l
   ·by_cases h3:Jrx l
    ·by_cases h4:Jir l
     ·by_cases h5:Jcz l
      ·by_cases h6:(Mo l.Joints).Nodup
       ·by_cases h7:Jru l
        ·by_cases h8:(l.Signals.map (·.At)).Nodup
         ·by_cases h9:Jry l
          ·by_cases h10:Jtq l
           ·by_cases h11:(l.Balises.map (·.Id)).Nodup
            ·exact ⟨h1,h2,h3,h4,h5,h6,h7,h8,h9,h10,h11⟩
            ·simp [h1,h2,h3,h4,h5,h6,h7,h8,h9,h10,h11] at h
           ·simp [h1,h2,h3,h4,h5,h6,h7,h8,h9,h10] at h
          ·simp [h1,h2,h3,h4,h5,h6,h7,h8,h9] at h
         ·simp [h1,h2,h3,h4,h5,h6,h7,h8] at h
        ·simp [h1,h2,h3,h4,h5,h6,h7] at h
       ·simp [h1,h2,h3,h4,h5,h6] at h
      ·simp [h1,h2,h3,h4,h5] at h
     ·simp [h1,h2,h3,h4] at h
    ·simp [h1,h2,h3] at h
   ·simp [h1,h2] at h
  ·simp [h1] at h
 ·rintro ⟨h1,h2,h3,h4,h5,h6,h7,h8,h9,h10,h11⟩
  simp [chk,h1,h2,h3,h4,h5,h6,h7,h8,h9,h10,h11]
theorem Jck {l:Je} (h:Sm l):Br l=some (chk l):=by
 obtain ⟨r,h1,rfl⟩:=Jjk h; exact h1
/-! ### Joined ends -/
end PM
