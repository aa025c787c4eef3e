/-
 THE PURE MACHINE, M: maps of lists that grow in place: a loop that sorts the elements of a list by a key.
-/
import Derived.Test.YtfpoeepcomnjhaaGreatDoorPmQt
namespace PM
open Go Go.RowKit
section
variable {P:Program} {Gl:Nat→Option (List PV)} {s:PSt} {c:Code}
def Kcw (I:Nat→PSt→Prop) (n:Nat) (Q:Exit→PSt→Prop):Exit→PSt→Prop
 | .normal,s=>∃ m s',m<n∧I m s'∧Wkr s s'
 | e,s=>Q e s
theorem Jw9 {Q:Exit→PSt→Prop} (I:Nat→PSt→Prop) (n:Nat) {s':PSt} (h0:I n s') (hw:Wkr s s') (hr:∀ n s,I n s→pwp P Gl c (Kcw I n Q) s):pwp P Gl (.loop c) Q s:=by
 intro S0 w0 a w hi;have key:∀ n (a:Act) (w:World),(∃ s,I n s∧Inv Gl S0 w0 s a w)→∀ (b:Frame) (k:List Item) (cs:List Frame),
   ∃ e a' w',(∃ s',Q e s'∧Inv Gl S0 w0 s' a' w')∧Arrives P (lone (b.at a (.code c::.inLoop c::k)) cs w) b k cs e a' w':=by
  intro n;induction n using Nat.strongRecOn with
  | _ n ih =>
   rintro a w ⟨s,hI,hi⟩ b k cs;obtain ⟨e,a1,w1,⟨s1,hq,hi1⟩,harr⟩:=hr n s hI S0 w0 a w hi b (.inLoop c::k) cs;cases e with
   | normal =>
    obtain ⟨m,s2,hm,hI2,hw2⟩:=hq;obtain ⟨e2,a2,w2,hq2,harr2⟩:=ih m hm a1 w1 ⟨s2,hI2,hw2 Gl S0 w0 a1 w1 hi1⟩ b k cs;exact ⟨e2,a2,w2,hq2,.of_steps (Steps.trans harr (.one step_inLoop)) harr2⟩
   | exit id=>exact ⟨_,a1,w1,⟨s1,hq,hi1⟩,.pass (x:=.inLoop c) rfl (fun _ _=>.inl (by simp)) harr⟩
   | goto l=>exact ⟨_,a1,w1,⟨s1,hq,hi1⟩,.pass (x:=.inLoop c) rfl (fun _ _=>.inl (by simp)) harr⟩
   | ret=>exact ⟨_,a1,w1,⟨s1,hq,hi1⟩,.pass (x:=.inLoop c) rfl (fun _ _=>.inl (by simp)) harr⟩
   | panic ch=>exact ⟨_,a1,w1,⟨s1,hq,hi1⟩,.pass (x:=.inLoop c) rfl (fun _ _=>.inl (by simp)) harr⟩
   | outgrown=>exact ⟨_,a1,w1,⟨s1,hq,hi1⟩,.pass (x:=.inLoop c) rfl (fun _ _=>.inl (by simp)) harr⟩
 intro b k cs;obtain ⟨e,a',w',hq,harr⟩:=key n a w ⟨s',h0,hw Gl S0 w0 a w hi⟩ b k cs;exact ⟨e,a',w',hq,.of_steps (.one step_loop) harr⟩
end
section
variable {κ ν:Type} [Key κ]
def Co (k:κ):List (κ×List ν)→Option (Nat×List ν)
 | []=>none
 | e::es=>if k=e.1 then some (0,e.2) else (Co k es).map fun x=>(x.1+1,x.2)
def Jej {β:Type} (r:Option (Nat×β)) (n:Nat):Nat:=match r with|some (i,_)=>i|none=>n
def Xm (fk:ν→κ) (x:ν) (m:List (κ×List ν)):List (κ×List ν):=Dj (fk x) (((Co (fk x) m).map (·.2)).getD []++[x]) m
def grp (fk:ν→κ) (l:List ν):List (κ×List ν):=l.foldl (fun m x=>Xm fk x m) []
def Jvc [Enc ν] (fk:ν→κ) (l:List ν):Option (List (κ×List ν)):=if l.length≤1048576∧Enc.b ν≤1048576 then some (grp fk l) else none
theorem Jt8 [Enc ν] {fk:ν→κ} {l:List ν} {m:List (κ×List ν)} (h:Jvc fk l=some m):m=grp fk l∧(l.length * Enc.b ν≤Kx∧l.length≤Kx)∧l.length≤1048576:=by
 unfold Jvc at h;split at h
 ·rename_i hc;cases h;have:=Nat.mul_le_mul hc.1 hc.2;exact ⟨rfl,⟨by simp only [Kx]; omega,by simp only [Kx]; omega⟩,hc.1⟩
 ·cases h
theorem Jzd (fk:ν→κ) (l:List ν) (x:ν):grp fk (l++[x])=Xm fk x (grp fk l):=by simp [grp]
theorem Jxe {fk:ν→κ} {x:ν} {m:List (κ×List ν)} (h:Co (fk x) m=none):Xm fk x m=Dj (fk x) [x] m:=by simp [Xm,h]
theorem Jwy {fk:ν→κ} {x:ν} {m:List (κ×List ν)} {i:Nat} {L:List ν} (h:Co (fk x) m=some (i,L)):Xm fk x m=Dj (fk x) (L++[x]) m:=by simp [Xm,h]
theorem Jby {k:κ}:∀ {m:List (κ×List ν)} {i:Nat} {L:List ν},Co k m=some (i,L)→m[i]? = some (k,L)
 | [],_,_,h=>by cases h
 | e::es,i,L,h=>by
  unfold Co at h
  by_cases hk:k=e.1
  ·rw [if_pos hk] at h; cases h; subst hk; rfl
  ·rw [if_neg hk] at h;obtain ⟨x,hx,he⟩:=Option.map_eq_some_iff.1 h;cases he
   simpa using Jby (i:=x.1) (L:=x.2) hx
theorem Jxm {β:Type} (r:Option (Nat×β)) (n:Nat):Jej (r.map fun x=>(x.1+1,x.2)) (n+1)=Jej r n+1:=by cases r <;> rfl
theorem Jiv {k:κ} {v:List ν}:∀ {m:List (κ×List ν)} (j:Nat),(Dj k v m)[j]? = if j=Jej (Co k m) m.length then some (k,v) else m[j]?
 | [],j=>by
  cases j <;> simp [Dj,Co,Jej]
 | e::es,j=>by
  unfold Dj Co
  by_cases hk:k=e.1
  ·rw [if_pos hk,if_pos hk];show _=if j=0 then _ else _
   cases j <;> simp
  ·rw [if_neg hk,if_neg hk,List.length_cons,Jxm];cases j with
   | zero=>rw [if_neg (by omega)]; rfl
   | succ j =>
    rw [List.getElem?_cons_succ,Jiv j,List.getElem?_cons_succ]
    by_cases hj:j=Jej (Co k es) es.length
    ·rw [if_pos hj,if_pos (by omega)]
    ·rw [if_neg hj,if_neg (by omega)]
theorem Jyx {fk:ν→κ} {x:ν} {m:List (κ×List ν)} {n:Nat} (h:∀ e∈m,e.2.length≤n):∀ e∈Xm fk x m,e.2.length≤n+1:=by
 intro e he;obtain ⟨j,hj⟩:=List.getElem?_of_mem he;unfold Xm at hj;rw [Jiv] at hj
 by_cases hc:j=Jej (Co (fk x) m) m.length
 ·rw [if_pos hc] at hj;cases hj;cases hf:Co (fk x) m with
  | none=>simp
  | some y =>
   have:=h _ (List.mem_of_getElem? (Jby (i:=y.1) (L:=y.2) hf));simp; exact this
 ·rw [if_neg hc] at hj;have:=h e (List.mem_of_getElem? hj); omega
theorem Kav (fk:ν→κ) (l:List ν):∀ e∈grp fk l,e.2.length≤l.length:=by
 suffices ∀ (l:List ν) (m:List (κ×List ν)) (n:Nat),(∀ e∈m,e.2.length≤n)→∀ e∈l.foldl (fun m x=>Xm fk x m) m,e.2.length≤n+l.length by
  intro e he;have:=this l [] 0 (fun e he=>by cases he) e he;omega
 intro l;induction l with
 | nil=>intro m n h e he; exact h e he
 | cons x l ih =>
  intro m n h e he;have:=ih (Xm fk x m) (n+1) (Jyx h) e he;simp only [List.length_cons]; omega
theorem Jr5 {fk:ν→κ} {bs:List ν} {i:Nat} {x:ν} (hx:bs[i]? = some x) {j:Nat} {L:List ν} (hf:Co (fk x) (grp fk (bs.take i))=some (j,L)):L.length+1≤bs.length:=by
 have h1:=Kav fk (bs.take i) _ (List.mem_of_getElem? (Jby hf));have h2:=(List.getElem?_eq_some_iff.1 hx).1;simp only [List.length_take] at h1;omega
theorem Jkw {k:κ} {v:List ν}:∀ m:List (κ×List ν),(Dj k v m).length≤m.length+1
 | []=>by simp [Dj]
 | e::es=>by
  have:=Jkw (k:=k) (v:=v) es;unfold Dj;split <;> simp <;> omega
theorem Ju8 (fk:ν→κ) (l:List ν):(grp fk l).length≤l.length:=by
 suffices ∀ (l:List ν) (m:List (κ×List ν)),(l.foldl (fun m x=>Xm fk x m) m).length≤m.length+l.length by simpa [grp] using this l []
 intro l;induction l with
 | nil=>intro m; simp
 | cons x l ih =>
  intro m;have h1:=ih (Xm fk x m);have h2:(Xm fk x m).length≤m.length+1:=Jkw m;simp only [List.foldl_cons,List.length_cons]; omega
end
section
variable {κ ν:Type} [Key κ] [Enc ν] {P:Program} {Gl:Nat→Option (List PV)} {s:PSt} {d:Bool} {Ls:List (Oper×Gd)} {Q:PSt→Prop}
def Vd (i:Nat):Nat:=499000000+i
def esO (m:List (κ×List ν)):List (PV×List (List PV)):=m.map fun e=>(Enc.pv e.1,e.2.map cellsOf)
def Xc (m:List (κ×List ν)) (t:Nat):Option (Nat×Nat):=if 499000000≤t then (m[t - 499000000]?).map fun e=>((e.2.map cellsOf).length,Enc.k ν) else none
theorem Jrt (k:κ):∀ m:List (κ×List ν),Jhx (Enc.pv k) (esO m)=some ((Co k m).map fun x=>(x.1,x.2.map cellsOf))
 | []=>rfl
 | e::es=>by
  have ih:=Jrt k es;unfold esO at ih ⊢;simp only [List.map_cons,Jhx,Key.keq,Co]
  by_cases h:k=e.1
  ·simp [h]
  ·simp only [h,decide_false,if_false,ih,Option.map_some,Option.map_map]
   rfl
def Kb9 (P:Program):List (Oper×Gd)→PSt→Option (Nat×PV)
 | (o,.always)::_,s=>match o.op with
  | .lookup t x k false=>match s.ev x,Jbo P t with
   | .mp l,some (d,.nil)=>if Fw d (s.ev k)=true then some (l,s.ev k) else none
   | _,_=>none
  | _=>none
 | _,_=>none
theorem Kd4 {m:List (κ×List ν)} {k:κ} {tk:Nat→Nat} (l:Nat) (hH:s.H l=some (.mapo (esO m) (Enc.k ν) (Enc.b ν) tk)) (h:Kb9 P Ls s=some (l,Enc.pv k))
  (h2:Kl P Gl d (Ls.drop 1) (s.put (Um Ls) (match Co k m with|some (i,L)=>Jk (.own (tk i)) L|none=>.nil)) Q):Kl P Gl d Ls s Q:=by
 refine Bn (e:=.none) ?_ h2;unfold Kb9 at h;split at h
 ·rename_i o rest s;split at h
  ·rename_i t x k' hop;split at h
   ·rename_i l' d hx hm;split at h
    ·rename_i hd;simp only [Option.some.injEq,Prod.mk.injEq] at h;obtain ⟨rfl,hk⟩:=h;simp only [Oe,hop,Vh,evO,Bc,Bool.false_eq_true,if_false,ev1,hx,hH,Sv,hm];rw [if_pos hd,hk,Jrt];cases Co k m <;> rfl
    ·cases h
   ·cases h
  ·cases h
 ·cases h
def Jzl (P:Program):List (Oper×Gd)→PSt→Option (Nat×PV×PV)
 | (o,.always)::_,s=>match o.op with
  | .mapUpdate t m k x=>match s.ev m,Jbo P t,Lg (s.ev x) with
   | .mp l,some (d,_),some _=>if Fw d (s.ev k)=true then some (l,s.ev k,s.ev x) else none
   | _,_,_=>none
  | _=>none
 | _,_=>none
def Jfc (k:κ) (m:List (κ×List ν)) (t:Nat) (tk:Nat→Nat) (j:Nat):Nat:=if j=Jej (Co k m) m.length then t else tk j
theorem Jwt (k:κ) (M:List ν) (m:List (κ×List ν)):Jr1 (esO m) (Jej (Co k m) m.length) (Enc.pv k,M.map cellsOf)=esO (Dj k M m):=by
 apply List.ext_getElem?;intro j;have hl:(esO m).length=m.length:=by simp [esO]
 have e:(esO (Dj k M m))[j]? = ((Dj k M m)[j]?).map fun e=>((Enc.pv e.1:PV),e.2.map cellsOf):=by simp [esO]
 have e2:(esO m)[j]? = (m[j]?).map fun e=>((Enc.pv e.1:PV),e.2.map cellsOf):=by simp [esO]
 rw [e,Jiv];unfold Jr1;cases hf:Co k m with
 | none =>
  have hx:Jej (none:Option (Nat×List ν)) m.length=m.length:=rfl;rw [hx,if_neg (by omega),List.getElem?_append,hl]
  by_cases hj:j<m.length
  ·rw [if_pos hj,if_neg (by omega),e2]
  ·rw [if_neg hj]
   by_cases hje:j=m.length
   ·subst hje; simp
   ·rw [if_neg hje,List.getElem?_eq_none (by simp; omega),List.getElem?_eq_none (by omega)]; rfl
 | some y =>
  obtain ⟨i,L⟩:=y;have hi:i<m.length:=(List.getElem?_eq_some_iff.1 (Jby hf)).1;have hx:Jej (some (i,L)) m.length=i:=rfl;rw [hx,if_pos (by omega),List.getElem?_set,hl,if_pos hi]
  by_cases hj:i=j
  ·subst hj; simp
  ·rw [if_neg hj,if_neg (fun e=>hj e.symm),e2]
theorem Jyv {m:List (κ×List ν)} {k:κ} {M:List ν} {tk:Nat→Nat} (t' l:Nat) (hH:s.H l=some (.mapo (esO m) (Enc.k ν) (Enc.b ν) tk)) (h:Jzl P Ls s=some (l,Enc.pv k,Jk (.own t') M))
  (h2:Kl P Gl d (Ls.drop 1) (({ s with H:=upd s.H l (some (.mapo (esO (Dj k M m)) (Enc.k ν) (Enc.b ν) (Jfc k m t' tk))) }:PSt).put (Um Ls) .any) Q):Kl P Gl d Ls s Q:=by
 refine Bn (v:=.any) (e:=.obj l (.mapo (esO (Dj k M m)) (Enc.k ν) (Enc.b ν) (Jfc k m t' tk))) ?_ h2;unfold Jzl at h;split at h
 ·rename_i o rest s;split at h
  ·rename_i t x k' y hop;split at h
   ·rename_i l' d z dv hx hm hdv;split at h
    ·rename_i hd;simp only [Option.some.injEq,Prod.mk.injEq] at h;obtain ⟨rfl,hk,hy⟩:=h;simp only [Oe,hop,Vh,evO,Bc,if_true,evE,hx,hH,hm,hdv,Jew];rw [hy,hk];rw [hk] at hd;simp only [Jk];rw [if_pos (by simp [hd]),Jrt];simp only [Option.map_some];have e1:=Jwt k M m;cases hf:Co k m with
     | none =>
      simp only [Option.map_none];have e2:(fun j=>if j=(esO m).length then t' else tk j)=Jfc k m t' tk:=by
       funext j; simp [Jfc,Jej,hf,esO]
      rw [hf] at e1;simp only [Jej] at e1;rw [show (esO m).length=m.length by simp [esO]] at e2 ⊢;rw [e1,e2]
     | some y =>
      obtain ⟨i,L⟩:=y;simp only [Option.map_some];have e2:(fun j=>if j=i then t' else tk j)=Jfc k m t' tk:=by
       funext j; simp [Jfc,Jej,hf]
      rw [hf] at e1;simp only [Jej] at e1;rw [e1,e2]
    ·cases h
   ·cases h
  ·cases h
 ·cases h
theorem Kc6 {α:Type} [Enc α] {L ys M:List α} {tk:Nat} {T:Nat→Option (Nat×Nat)} (hM:Ul L ys=some M) (hT0:s.T=T) (hT:T tk=some ((L.map cellsOf).length,Enc.k α)) (h:Jp0 P Ls s=some (tk,false,Enc.k α,Enc.b α,L.map cellsOf,ys.map cellsOf))
  (h2:Kl P Gl d (Ls.drop 1) (({ s with T:=upd T tk (some ((M.map cellsOf).length,Enc.k α)) }:PSt).put (Um Ls) (Jk (.own tk) M)) Q):Kl P Gl d Ls s Q:=by
 subst hT0;exact Kbr hM hT h h2
end
theorem Ju6 {H H':Nat→Option Qt} (hH:∀ l,(H l).isSome=true→(H' l).isSome=true):∀ p,Jqa H p=true→Jqa H' p=true:=by
 intro p h;cases p <;> simp only [Jqa] at h ⊢;exact hH _ h
theorem Jha {H H':Nat→Option Qt} {T T':Nat→Option (Nat×Nat)} (hH:∀ l,(H l).isSome=true→(H' l).isSome=true) (hT:∀ t,(T t).isSome=true→(T' t).isSome=true):∀ p,Lk H T p=true→Lk H' T' p=true:=by
 intro p h;cases p
 case lst o k b xss=>cases o <;> simp only [Lk] at h ⊢; exact hT _ h
 case fn f caps =>
  simp only [Lk,List.all_eq_true] at h ⊢;exact fun x hx=>Ju6 hH x (h x hx)
 all_goals (simp only [Lk] at h ⊢ <;> first|exact hT _ h|exact hH _ h)
theorem Jms {H H':Nat→Option Qt} {T T':Nat→Option (Nat×Nat)} (hH:∀ l,(H l).isSome=true→(H' l).isSome=true) (hT:∀ t,(T t).isSome=true→(T' t).isSome=true):∀ p,Xi H T p=true→Xi H' T' p=true:=by
 intro p h;cases p
 case agg cs =>
  simp only [Xi,List.all_eq_true] at h ⊢;exact fun x hx=>Jha hH hT x (h x hx)
 all_goals (simp only [Xi] at h ⊢; exact Jha hH hT _ h)
theorem Ju3 {H H':Nat→Option Qt} {T T':Nat→Option (Nat×Nat)} (hH:∀ l,(H l).isSome=true→(H' l).isSome=true) (hT:∀ t,(T t).isSome=true→(T' t).isSome=true):∀ p,Gb H T p=true→Gb H' T' p=true:=by
 intro p h;cases p
 case tup cs =>
  simp only [Gb,List.all_eq_true] at h ⊢;exact fun x hx=>Jms hH hT x (h x hx)
 all_goals (simp only [Gb] at h ⊢; exact Jms hH hT _ h)
theorem Jvk {H H':Nat→Option Qt} {T T':Nat→Option (Nat×Nat)} (hH:∀ l,(H l).isSome=true→(H' l).isSome=true) (hT:∀ t,(T t).isSome=true→(T' t).isSome=true):∀ p,Jdo H T p=true→Jdo H' T' p=true:=by
 intro p h;cases p
 case cells cs =>
  simp only [Jdo,List.all_eq_true] at h ⊢;exact fun x hx=>Jha hH hT x (h x hx)
 all_goals exact h
def Jdy (j:JS) (n l:Nat) (ob:Qt) (T:Nat→Option (Nat×Nat)):PSt:={ (j.st n) with H:=upd (j.st n).H l (some ob),T:=T }
def JS.dum (j:JS) (l:Nat):JS:=⟨j.tm,(l,.map [])::j.H,[],[]⟩
theorem Jfx {α:Type} (l:Nat) (x:α) (H:List (Nat×α)):Xn ((l,x)::H)=upd (Xn H) l (some x):=by
 funext i;unfold Xn upd;rw [List.lookup_cons]
 by_cases h:i=l
 ·subst h; simp
 ·rw [if_neg h];have:(i == l)=false:=by simpa using h
  rw [this]
theorem Jvs {j:JS} {n l:Nat} {ob ob':Qt} {T':Nat→Option (Nat×Nat)} {s:PSt} (hok:((j.dum l).ok&&(j.H.lookup l).isNone&&j.T.isEmpty&&j.X.isEmpty)=true) (h:j.seen s=j.told n) (hH:s.H l=some ob) (hT:∀ t x,T' t=some x→s.T t=some x)
  (hw:WkO (Jdy j n l ob' T').H T' ob ob'):Jd2 s (Jdy j n l ob' T'):=by
 simp only [Bool.and_eq_true] at hok;obtain ⟨⟨⟨hok,hl⟩,hjT⟩,hjX⟩:=hok;simp only [JS.seen,JS.told,Prod.mk.injEq] at h;obtain ⟨h1,h2,h3,h4,h5,h6'⟩:=h;simp only [JS.ok,JS.dum,Bool.and_eq_true] at hok;obtain ⟨hok,_⟩:=hok;have hn1:n % 100000=s.tm.length:=h1.1.symm;have hn2:n / 100000=s.m:=h1.2.symm;have hHm:∀ i,(Xn ((l,.map [])::j.H) i).isSome=true→((Jdy j n l ob' T').H i).isSome=true:=fun i hi=>by
  rw [Jfx] at hi;show (upd (Xn j.H) l (some ob') i).isSome=true
  by_cases e:i=l
  ·subst e; rw [Qc]; rfl
  ·rw [Kn _ _ _ _ e] at hi ⊢; exact hi
 have hTm:∀ t,((Xn ([]:List (Nat×(Nat×Nat)))) t).isSome=true→(T' t).isSome=true:=fun t ht=>by cases ht
 refine ⟨⟨by simp [Jdy,JS.st,Jas,hn1],fun i q p hq hp=>?_⟩,fun l' ob1 hob=>?_,hT,fun t x hx=>?_,hn2⟩
 ·have hi:i<n % 100000:=by rw [hn1]; exact (List.getElem?_eq_some_iff.1 hq).1
  simp only [Jdy,JS.st] at hp;rw [Jgy _ _ _ _ hi,Nat.zero_add] at hp;cases hlk:j.tm.lookup i with
  | none=>rw [hlk] at hp; cases hp; exact .any _
  | some p' =>
   rw [hlk] at hp;have hpp:p'=p:=by simpa using hp
   subst hpp;have hm:=La hlk;have e:=Px h3 _ hm;have hg:s.tm.getD i .any=q:=by rw [List.getD_eq_getElem?_getD,hq]; rfl
   simp only [hg] at e;have hn:=List.all_eq_true.1 h2 _ hm;have hlive:=Ju3 hHm hTm _ (List.all_eq_true.1 hok.1 _ hm);simp only [hg] at hn;have:=Xf (p:=p') (q:=q) (H:=(Jdy j n l ob' T').H) (T:=T') hn (by rw [e]; exact hlive)
   rwa [e] at this
 ·have hob:upd (Xn j.H) l (some ob') l'=some ob1:=hob
  by_cases e:l'=l
  ·subst e;rw [Qc] at hob; cases hob;exact ⟨ob,hH,hw⟩
  ·rw [Kn _ _ _ _ e] at hob;have hm:=La hob;have e:=Px h4 _ hm;obtain ⟨ob2,h6,h7⟩:=Option.map_eq_some_iff.1 e;refine ⟨ob2,h6, ?_⟩;have hlv:=Jvk hHm hTm _ (List.all_eq_true.1 hok.2 _ (List.mem_cons_of_mem _ hm));have:=Jog (p:=ob1) (q:=ob2) (H:=(Jdy j n l ob' T').H) (T:=T') (by rw [h7]; exact hlv)
   rwa [h7] at this
 ·have hx:Xn j.X t=some x:=hx;have:j.X=[]:=by simpa using hjX
  rw [this] at hx; cases hx
section
variable {κ ν:Type} [Key κ] [Enc ν] {s:PSt}
theorem Jw1 (m:List (κ×List ν)) (i:Nat) (hi:i<(esO m).length):(Xc m (Vd i)).isSome=true:=by
 have hi:i<m.length:=by simpa [esO] using hi
 unfold Xc Vd;rw [if_pos (by omega),show 499000000+i - 499000000=i by omega,List.getElem?_eq_getElem hi]; rfl
theorem Jwr {k:κ} {m:List (κ×List ν)} {i:Nat} {L:List ν} (h:Co k m=some (i,L)):Xc m (Vd i)=some ((L.map cellsOf).length,Enc.k ν):=by
 unfold Xc Vd;rw [if_pos (by omega),show 499000000+i - 499000000=i by omega,Jby h]; rfl
theorem Jtl {k:κ} {m:List (κ×List ν)} {M:List ν} {i:Nat} (hi:i=Jej (Co k m) m.length):Xc (Dj k M m)=upd (Xc m) (Vd i) (some ((M.map cellsOf).length,Enc.k ν)):=by
 funext t;have e0:∀ mm:List (κ×List ν),Xc mm t=if 499000000≤t then (mm[t - 499000000]?).map fun e=>((e.2.map cellsOf).length,Enc.k ν) else none:=fun _=>rfl
 show Xc (Dj k M m) t=if t=Vd i then _ else Xc m t
 rw [e0,e0];unfold Vd
 by_cases ht:499000000≤t
 ·rw [if_pos ht,if_pos ht,Jiv,← hi]
  by_cases e:t=499000000+i
  ·subst e;rw [if_pos rfl,if_pos (by omega)]; rfl
  ·rw [if_neg e,if_neg (by omega)]
 ·rw [if_neg ht,if_neg ht,if_neg (by omega)]
theorem Jme {j:JS} {n:Nat} (l:Nat) {m:List (κ×List ν)} (hok:((j.dum l).ok&&(j.H.lookup l).isNone&&j.T.isEmpty&&j.X.isEmpty)=true) (h:j.seen s=j.told n) (hH:s.H l=some (.mapo (esO m) (Enc.k ν) (Enc.b ν) Vd)) (hT:s.T=Xc m) :
  Wkr s (Jdy j n l (.mapo (esO m) (Enc.k ν) (Enc.b ν) Vd) (Xc m)):=fun _ _ _ _ _ hi =>
 hi.weak (Jvs hok h hH (fun t x e=>by rw [hT]; exact e) (.mapo _ _ _ _ fun i hi=>Jw1 m i hi))
theorem Kak {j:JS} {n:Nat} (l:Nat) {fk:ν→κ} {x:ν} {m:List (κ×List ν)} {i:Nat} {L:List ν} (hf:Co (fk x) m=some (i,L)) (hok:((j.dum l).ok&&(j.H.lookup l).isNone&&j.T.isEmpty&&j.X.isEmpty)=true) (h:j.seen s=j.told n)
  (hH:s.H l=some (.mapo (esO (Dj (fk x) (L++[x]) m)) (Enc.k ν) (Enc.b ν) (Jfc (fk x) m (Vd i) Vd))) (hT:s.T=upd (Xc m) (Vd i) (some (((L++[x]).map cellsOf).length,Enc.k ν))) :
  Wkr s (Jdy j n l (.mapo (esO (Xm fk x m)) (Enc.k ν) (Enc.b ν) Vd) (Xc (Xm fk x m))):=by
 have htk:Jfc (fk x) m (Vd i) Vd=Vd:=by
  funext q;unfold Jfc;rw [show Jej (Co (fk x) m) m.length=i by rw [hf]; rfl]
  by_cases e:q=i
  ·rw [if_pos e,e]
  ·rw [if_neg e]
 rw [Jwy hf];rw [htk] at hH;refine Jme l hok h hH ?_;rw [hT,Jtl (k:=fk x) (M:=L++[x]) (i:=i) (by rw [hf]; rfl)]
theorem Kbk {j:JS} {n:Nat} (l t:Nat) {fk:ν→κ} {x:ν} {m:List (κ×List ν)} (ht:t<499000000) (hf:Co (fk x) m=none) (hok:((j.dum l).ok&&(j.H.lookup l).isNone&&j.T.isEmpty&&j.X.isEmpty)=true)
  (h:j.seen (Jrn id (Jf8 t (Vd m.length)) s)=j.told n) (hm:m.length<400000000)
  (hH:s.H l=some (.mapo (esO (Dj (fk x) [x] m)) (Enc.k ν) (Enc.b ν) (Jfc (fk x) m t Vd))) (hT:s.T=upd (Xc m) t (some (([x].map cellsOf).length,Enc.k ν))) :
  Wkr s (Jdy j n l (.mapo (esO (Xm fk x m)) (Enc.k ν) (Enc.b ν) Vd) (Xc (Xm fk x m))):=by
 rw [Jxe hf];have hD:Vd m.length<1000000000:=by unfold Vd; omega
 have hsw:∀ q,Jf8 t (Vd m.length) (Vd q)=if q=m.length then t else Vd q:=fun q=>by
  unfold Jf8 Vd
  by_cases e:q=m.length
  ·rw [if_neg (by omega),if_pos (by omega),if_pos e]
  ·rw [if_neg (by omega),if_neg (by omega),if_neg e]
 refine Wkr.trans (s2:=Jrn id (Jf8 t (Vd m.length)) s) (fun Gl S0 w0 a w hi=>?_) (Jme l hok h ?_ ?_)
 ·obtain ⟨g,rfl,hg⟩:=hi;exact ⟨Jay id (Jf8 t (Vd m.length)) g,rfl,hg.ren (fun _=>rfl) (Jwo t _) (fun _ _=>rfl) (fun i hi=>by
   unfold Jf8;rw [if_neg (by omega),if_neg (by omega)])⟩
 ·show (s.H l).map (Jyd id (Jf8 t (Vd m.length)))=_;rw [hH];simp only [Option.map_some,Jyd];congr 1;congr 1;funext q;unfold Jfc;rw [show Jej (Co (fk x) m) m.length=m.length by rw [hf]; rfl]
  by_cases e:q=m.length
  ·rw [if_pos e,e];unfold Jf8; rw [if_pos rfl]
  ·rw [if_neg e,hsw,if_neg e]
 ·show (fun q=>s.T (Jf8 t (Vd m.length) q))=_;rw [hT,Jtl (k:=fk x) (M:=[x]) (i:=m.length) (by rw [hf]; rfl)];funext q;unfold upd
  by_cases e:q=Vd m.length
  ·subst e;rw [hsw,if_pos rfl,if_pos rfl,if_pos rfl]
  ·rw [if_neg e]
   by_cases e2:q=t
   ·subst e2;have:Jf8 q (Vd m.length) q=Vd m.length:=by unfold Jf8; rw [if_pos rfl]
    rw [this,if_neg (by unfold Vd; omega)];unfold Xc Vd;rw [if_pos (by omega),if_neg (by omega),List.getElem?_eq_none (by omega)]; rfl
   ·have:Jf8 t (Vd m.length) q=q:=by unfold Jf8; rw [if_neg e2,if_neg e]
    rw [this,if_neg e2]
theorem Kaw {j:JS} {n:Nat} (l:Nat) {m:List (κ×List ν)} {tk:Nat→Nat} (hok:((j.dum l).ok&&(j.H.lookup l).isNone&&j.T.isEmpty&&j.X.isEmpty)=true) (h:j.seen s=j.told n) (hH:s.H l=some (.mapo (esO m) (Enc.k ν) (Enc.b ν) tk)) :
  Wkr s ((⟨j.tm,(l,.map (Wc m))::j.H,[],[]⟩:JS).st n):=fun _ _ _ _ _ hi=>by
 have hmp:(esO m).map (fun e=>(e.1,PV.lst .frozen (Enc.k ν) (Enc.b ν) e.2))=Wc m:=by
  unfold esO Wc;rw [List.map_map]; rfl
 have:=hi.weak (Jvs (T':=fun _=>none) hok h hH (fun t x e=>by cases e) (.mapf _ _ _ _));rw [hmp] at this;simp only [Bool.and_eq_true] at hok;have hX:j.X=[]:=by simpa using hok.2
 have e:Jdy j n l (.map (Wc m)) (fun _=>none)=(⟨j.tm,(l,.map (Wc m))::j.H,[],[]⟩:JS).st n:=by
  unfold Jdy JS.st;simp only [Jfx,hX]
  rfl
 rwa [e] at this
theorem Ka7 {j:JS} {n:Nat} (l:Nat) (hok:(j.dum l).ok=true) (hX:(j.T.isEmpty&&j.X.isEmpty)=true) (hk:Enc.k ν≠0) (h:(j.dum l).seen s=(j.dum l).told n):Wkr s (Jdy j n l (.mapo (esO ([]:List (κ×List ν))) (Enc.k ν) (Enc.b ν) Vd) (Xc ([]:List (κ×List ν)))):=fun Gl S0 w0 a w hi=>by
 simp only [Bool.and_eq_true] at hX;have h1:=hi.weak (JS.weaker hok h);obtain ⟨g,rfl,hg⟩:=h1;have hl:((j.dum l).st n).H l=some (.map []):=by
  show Xn ((l,.map [])::j.H) l=_;rw [Jfx,Qc]
 have hgl:g.H l=some (.map []):=by rw [hg.hH]; exact hl
 obtain ⟨o1,o2,o3,arr,clock,b1,b2⟩:=hg.objs l _ hgl;have harr:arr.toList=[]:=b2.nil_left;obtain ⟨h2,_⟩:=hg.setObj (l:=l) (ob':=.mapo (esO ([]:List (κ×List ν))) (Enc.k ν) (Enc.b ν) Vd) (w':=g.w) hgl ⟨rfl,rfl,rfl,rfl,fun _ _=>rfl,rfl⟩ (fun cs e=>by cases e)
  (fun g' hg' hw'=>⟨hk,arr,clock,by rw [hw']; exact b1,by simpa [esO] using harr,fun i e m he _=>by simp [esO] at he⟩)
 have e:({ ((j.dum l).st n) with H:=upd ((j.dum l).st n).H l (some (.mapo (esO ([]:List (κ×List ν))) (Enc.k ν) (Enc.b ν) Vd)) }:PSt)=Jdy j n l (.mapo (esO ([]:List (κ×List ν))) (Enc.k ν) (Enc.b ν) Vd) (Xc ([]:List (κ×List ν))):=by
  have hXe:j.X=[]:=by simpa using hX.2
  unfold Jdy JS.st JS.dum;simp only [Jfx,hXe];congr 1
  ·funext i;unfold upd
   by_cases q:i=l
   ·simp [q]
   ·simp [q]
  ·funext t;unfold Xc Xn;split <;> rfl
 rw [e] at h2;refine ⟨_, ?_,h2⟩
 rfl
omit [Enc ν] in
theorem Ka8 {P:Program} {Gl:Nat→Option (List PV)} {c:Code} {Q:Exit→PSt→Prop} (bs:List ν) (fk:ν→κ) (id:Nat) (S:Nat→List (κ×List ν)→PSt) (F:List (κ×List ν)→PSt) (h0:Wkr s (S 0 []))
  (hstep:∀ i x,bs[i]? = some x→pwp P Gl c (fun e s'=>e=.normal∧Wkr s' (S (i+1) (Xm fk x (grp fk (bs.take i))))) (S i (grp fk (bs.take i))))
  (hend:∀ m,pwp P Gl c (fun e s'=>e=.exit id∧Wkr s' (F m)) (S bs.length m)) (hq:∀ s',Wkr s' (F (grp fk bs))→Q (.exit id) s'):pwp P Gl (.loop c) Q s:=by
 refine Jw9 (fun n s=>∃ i,n=bs.length - i∧i≤bs.length∧s=S i (grp fk (bs.take i))) bs.length (s':=S 0 []) ⟨0,rfl,Nat.zero_le _,rfl⟩ h0 ?_;rintro n _ ⟨i,rfl,hi,rfl⟩
 by_cases hil:i<bs.length
 ·have hx:bs[i]? = some bs[i]:=List.getElem?_eq_getElem hil;refine Ja9 (fun e s' hp=>?_) (hstep i _ hx);obtain ⟨rfl,hw⟩:=hp;refine ⟨bs.length - (i+1),_,by omega,⟨i+1,rfl,hil, ?_⟩,hw⟩;rw [List.take_add_one,hx,← Jzd]; rfl
 ·have:i=bs.length:=by omega
  subst this;refine Ja9 (fun e s' hp=>?_) (hend _);obtain ⟨rfl,hw⟩:=hp;rw [List.take_length] at hw;exact hq s' hw
theorem Jvw {L:List ν} {x:ν} {n:Nat} (h:L.length+1≤n) (h2:n * Enc.b ν≤Kx∧n≤Kx):Ul L [x]=some (L++[x]):=by
 unfold Ul;rw [if_pos];refine ⟨Nat.le_trans (Nat.mul_le_mul_right _ ?_) h2.1, ?_⟩ <;> simp only [List.length_cons,List.length_nil] <;> omega
end
end PM
