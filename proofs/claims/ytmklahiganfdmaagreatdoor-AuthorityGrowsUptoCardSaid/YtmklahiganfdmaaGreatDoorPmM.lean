/-
 THE PURE MACHINE, M: maps of lists that grow in place: a loop that sorts the elements of a list by a key.
-/
import Derived.Test.YtmklahiganfdmaaGreatDoorPmQt
namespace PM
open Go Go.RowKit
section
variable {P:Program} {Gl:Nat→Option (List PV)} {s:PSt} {c:Code}
def Kdr (I:Nat→PSt→Prop) (n:Nat) (Q:Exit→PSt→Prop):Exit→PSt→Prop
 | .normal,s=>∃ m s',m<n∧I m s'∧Wkr s s'
 | e,s=>Q e s
theorem Jvx {Q:Exit→PSt→Prop} (I:Nat→PSt→Prop) (n:Nat) {s':PSt} (h0:I n s') (hw:Wkr s s') (hr:∀ n s,I n s→pwp P Gl c (Kdr I n Q) s):pwp P Gl (.loop c) Q s:=by
 intro S0 w0 a w hi
 have key:∀ n (a:Act) (w:World),(∃ s,I n s∧Inv Gl S0 w0 s a w)→∀ (b:Frame) (k:List Item) (cs:List Frame),
   ∃ e a' w',(∃ s',Q e s'∧Inv Gl S0 w0 s' a' w')∧Arrives P (lone (b.at a (.code c::.inLoop c::k)) cs w) b k cs e a' w':=by
  intro n
  induction n using Nat.strongRecOn with
  | _ n ih =>
   rintro a w ⟨s,hI,hi⟩ b k cs
   obtain ⟨e,a1,w1,⟨s1,hq,hi1⟩,harr⟩:=hr n s hI S0 w0 a w hi b (.inLoop c::k) cs
   cases e with
   | normal =>
    obtain ⟨m,s2,hm,hI2,hw2⟩:=hq
    obtain ⟨e2,a2,w2,hq2,harr2⟩:=ih m hm a1 w1 ⟨s2,hI2,hw2 Gl S0 w0 a1 w1 hi1⟩ b k cs
    exact ⟨e2,a2,w2,hq2,.of_steps (Steps.trans harr (.one step_inLoop)) harr2⟩
   | exit id=>exact ⟨_,a1,w1,⟨s1,hq,hi1⟩,.pass (x:=.inLoop c) rfl (fun _ _=>.inl (by simp)) harr⟩
   | goto l=>exact ⟨_,a1,w1,⟨s1,hq,hi1⟩,.pass (x:=.inLoop c) rfl (fun _ _=>.inl (by simp)) harr⟩
   | ret=>exact ⟨_,a1,w1,⟨s1,hq,hi1⟩,.pass (x:=.inLoop c) rfl (fun _ _=>.inl (by simp)) harr⟩
   | panic ch=>exact ⟨_,a1,w1,⟨s1,hq,hi1⟩,.pass (x:=.inLoop c) rfl (fun _ _=>.inl (by simp)) harr⟩
   | outgrown=>exact ⟨_,a1,w1,⟨s1,hq,hi1⟩,.pass (x:=.inLoop c) rfl (fun _ _=>.inl (by simp)) harr⟩
 intro b k cs
 obtain ⟨e,a',w',hq,harr⟩:=key n a w ⟨s',h0,hw Gl S0 w0 a w hi⟩ b k cs
 exact ⟨e,a',w',hq,.of_steps (.one step_loop) harr⟩
end
/-! ### The plain side -/
section
variable {κ ν:Type} [Key κ]
def Zt (k:κ):List (κ×List ν)→Option (Nat×List ν)
 | []=>none
 | e::es=>if k=e.1 then some (0,e.2) else (Zt k es).map fun x=>(x.1+1,x.2)
/-- The place that a key has, or gets. -/
def Jcv {β:Type} (r:Option (Nat×β)) (n:Nat):Nat:=match r with|some (i,_)=>i|none=>n
def Pa (fk:ν→κ) (x:ν) (m:List (κ×List ν)):List (κ×List ν):=Se (fk x) (((Zt (fk x) m).map (·.2)).getD []++[x]) m
def grp (fk:ν→κ) (l:List ν):List (κ×List ν):=l.foldl (fun m x=>Pa fk x m) []
def Jk2 [Enc ν] (fk:ν→κ) (l:List ν):Option (List (κ×List ν)):=if l.length≤1048576∧Enc.b ν≤1048576 then some (grp fk l) else none
theorem Jso [Enc ν] {fk:ν→κ} {l:List ν} {m:List (κ×List ν)} (h:Jk2 fk l=some m):m=grp fk l∧(l.length * Enc.b ν≤Kn∧l.length≤Kn)∧l.length≤1048576:=by
 unfold Jk2 at h
 split at h
 ·rename_i hc
  cases h
  have:=Nat.mul_le_mul hc.1 hc.2
  exact ⟨rfl,⟨by simp only [Kn]; omega,by simp only [Kn]; omega⟩,hc.1⟩
 ·cases h
theorem Jzy (fk:ν→κ) (l:List ν) (x:ν):grp fk (l++[x])=Pa fk x (grp fk l):=by simp [grp]
theorem Jwj {fk:ν→κ} {x:ν} {m:List (κ×List ν)} (h:Zt (fk x) m=none):Pa fk x m=Se (fk x) [x] m:=by simp [Pa,h]
theorem Jv0 {fk:ν→κ} {x:ν} {m:List (κ×List ν)} {i:Nat} {L:List ν} (h:Zt (fk x) m=some (i,L)):Pa fk x m=Se (fk x) (L++[x]) m:=by simp [Pa,h]
theorem Xw {k:κ}:∀ {m:List (κ×List ν)} {i:Nat} {L:List ν},Zt k m=some (i,L)→m[i]?=some (k,L)
 | [],_,_,h=>by cases h
 | e::es,i,L,h=>by
  unfold Zt at h
  by_cases hk:k=e.1
  ·rw [if_pos hk] at h; cases h; subst hk; rfl
  ·rw [if_neg hk] at h
   obtain ⟨x,hx,he⟩:=Option.map_eq_some_iff.1 h
   cases he
   simpa using Xw (i:=x.1) (L:=x.2) hx
theorem Jw4 {β:Type} (r:Option (Nat×β)) (n:Nat):Jcv (r.map fun x=>(x.1+1,x.2)) (n+1)=Jcv r n+1:=by cases r <;> rfl
theorem Jgs {k:κ} {v:List ν}:∀ {m:List (κ×List ν)} (j:Nat),(Se k v m)[j]?=if j=Jcv (Zt k m) m.length then some (k,v) else m[j]?
 | [],j=>by
  cases j <;> simp [Se,Zt,Jcv]
 | e::es,j=>by
  unfold Se Zt
  by_cases hk:k=e.1
  ·rw [if_pos hk,if_pos hk]
   show _=if j=0 then _ else _
   cases j <;> simp
  ·rw [if_neg hk,if_neg hk,List.length_cons,Jw4]
   cases j with
   | zero=>rw [if_neg (by omega)]; rfl
   | succ j =>
    rw [List.getElem?_cons_succ,Jgs j,List.getElem?_cons_succ]
    by_cases hj:j=Jcv (Zt k es) es.length
    ·rw [if_pos hj,if_pos (by omega)]
    ·rw [if_neg hj,if_neg (by omega)]
theorem Jyc {fk:ν→κ} {x:ν} {m:List (κ×List ν)} {n:Nat} (h:∀ e∈m,e.2.length≤n):∀ e∈Pa fk x m,e.2.length≤n+1:=by
 intro e he
 obtain ⟨j,hj⟩:=List.getElem?_of_mem he
 unfold Pa at hj
 rw [Jgs] at hj
 by_cases hc:j=Jcv (Zt (fk x) m) m.length
 ·rw [if_pos hc] at hj
  cases hj
  cases hf:Zt (fk x) m with
  | none=>simp
  | some y =>
   have:=h _ (List.mem_of_getElem? (Xw (i:=y.1) (L:=y.2) hf))
   simp; exact this
 ·rw [if_neg hc] at hj
  have:=h e (List.mem_of_getElem? hj); omega
theorem Kbz (fk:ν→κ) (l:List ν):∀ e∈grp fk l,e.2.length≤l.length:=by
 suffices ∀ (l:List ν) (m:List (κ×List ν)) (n:Nat),(∀ e∈m,e.2.length≤n)→∀ e∈l.foldl (fun m x=>Pa fk x m) m,e.2.length≤n+l.length by
  intro e he
  have:=this l [] 0 (fun e he=>by cases he) e he
  omega
 intro l
 induction l with
 | nil=>intro m n h e he; exact h e he
 | cons x l ih =>
  intro m n h e he
  have:=ih (Pa fk x m) (n+1) (Jyc h) e he
  simp only [List.length_cons]; omega
theorem Jov {fk:ν→κ} {bs:List ν} {i:Nat} {x:ν} (hx:bs[i]?=some x) {j:Nat} {L:List ν} (hf:Zt (fk x) (grp fk (bs.take i))=some (j,L)):L.length+1≤bs.length:=by
 have h1:=Kbz fk (bs.take i) _ (List.mem_of_getElem? (Xw hf))
 have h2:=(List.getElem?_eq_some_iff.1 hx).1
 simp only [List.length_take] at h1
 omega
theorem Jig {k:κ} {v:List ν}:∀ m:List (κ×List ν),(Se k v m).length≤m.length+1
 | []=>by simp [Se]
 | e::es=>by
  have:=Jig (k:=k) (v:=v) es
  unfold Se
  split <;> simp <;> omega
theorem Jui (fk:ν→κ) (l:List ν):(grp fk l).length≤l.length:=by
 suffices ∀ (l:List ν) (m:List (κ×List ν)),(l.foldl (fun m x=>Pa fk x m) m).length≤m.length+l.length by simpa [grp] using this l []
 intro l
 induction l with
 | nil=>intro m; simp
 | cons x l ih =>
  intro m
  have h1:=ih (Pa fk x m)
  have h2:(Pa fk x m).length≤m.length+1:=Jig m
  simp only [List.foldl_cons,List.length_cons]; omega
end
/-! ### The machine's side -/
section
variable {κ ν:Type} [Key κ] [Enc ν] {P:Program} {Gl:Nat→Option (List PV)} {s:PSt} {d:Bool} {Ls:List (Oper×Gd)} {Q:PSt→Prop}
def Vf (i:Nat):Nat:=499000000+i
def esO (m:List (κ×List ν)):List (PV×List (List PV)):=m.map fun e=>(Enc.pv e.1,e.2.map cellsOf)
def Rq (m:List (κ×List ν)) (t:Nat):Option (Nat×Nat):=if 499000000≤t then (m[t - 499000000]?).map fun e=>((e.2.map cellsOf).length,Enc.k ν) else none
theorem Jox (k:κ):∀ m:List (κ×List ν),Jgp (Enc.pv k) (esO m)=some ((Zt k m).map fun x=>(x.1,x.2.map cellsOf))
 | []=>rfl
 | e::es=>by
  have ih:=Jox k es
  unfold esO at ih ⊢
  simp only [List.map_cons,Jgp,Key.keq,Zt]
  by_cases h:k=e.1
  ·simp [h]
  ·simp only [h,decide_false,if_false,ih,Option.map_some,Option.map_map]
   rfl
def Kcj (P:Program):List (Oper×Gd)→PSt→Option (Nat×PV)
 | (o,.always)::_,s=>match o.op with
  | .lookup t x k false=>match s.ev x,Jcj P t with
   | .mp l,some (d,.nil)=>if Gu d (s.ev k)=true then some (l,s.ev k) else none
   | _,_=>none
  | _=>none
 | _,_=>none
theorem Kes {m:List (κ×List ν)} {k:κ} {tk:Nat→Nat} (l:Nat) (hH:s.H l=some (.mapo (esO m) (Enc.k ν) (Enc.b ν) tk)) (h:Kcj P Ls s=some (l,Enc.pv k))
  (h2:Qc P Gl d (Ls.drop 1) (s.put (Zu Ls) (match Zt k m with|some (i,L)=>Jp (.own (tk i)) L|none=>.nil)) Q):Qc P Gl d Ls s Q:=by
 refine Ir (e:=.none) ?_ h2
 unfold Kcj at h
 split at h
 ·rename_i o rest s
  split at h
  ·rename_i t x k' hop
   split at h
   ·rename_i l' d hx hm
    split at h
    ·rename_i hd
     simp only [Option.some.injEq,Prod.mk.injEq] at h
     obtain ⟨rfl,hk⟩:=h
     simp only [Xo,hop,Wz,evO,Cq,Bool.false_eq_true,if_false,ev1,hx,hH,Py,hm]
     rw [if_pos hd,hk,Jox]
     cases Zt k m <;> rfl
    ·cases h
   ·cases h
  ·cases h
 ·cases h
def Jxq (P:Program):List (Oper×Gd)→PSt→Option (Nat×PV×PV)
 | (o,.always)::_,s=>match o.op with
  | .mapUpdate t m k x=>match s.ev m,Jcj P t,Mg (s.ev x) with
   | .mp l,some (d,_),some _=>if Gu d (s.ev k)=true then some (l,s.ev k,s.ev x) else none
   | _,_,_=>none
  | _=>none
 | _,_=>none
def Jbv (k:κ) (m:List (κ×List ν)) (t:Nat) (tk:Nat→Nat) (j:Nat):Nat:=if j=Jcv (Zt k m) m.length then t else tk j
theorem Jwp (k:κ) (M:List ν) (m:List (κ×List ν)):Jql (esO m) (Jcv (Zt k m) m.length) (Enc.pv k,M.map cellsOf)=esO (Se k M m):=by
 apply List.ext_getElem?
 intro j
 have hl:(esO m).length=m.length:=by simp [esO]
 have e:(esO (Se k M m))[j]?=((Se k M m)[j]?).map fun e=>((Enc.pv e.1:PV),e.2.map cellsOf):=by simp [esO]
 have e2:(esO m)[j]?=(m[j]?).map fun e=>((Enc.pv e.1:PV),e.2.map cellsOf):=by simp [esO]
 rw [e,Jgs]
 unfold Jql
 cases hf:Zt k m with
 | none =>
  have hx:Jcv (none:Option (Nat×List ν)) m.length=m.length:=rfl
  rw [hx,if_neg (by omega),List.getElem?_append,hl]
  by_cases hj:j<m.length
  ·rw [if_pos hj,if_neg (by omega),e2]
  ·rw [if_neg hj]
   by_cases hje:j=m.length
   ·subst hje; simp
   ·rw [if_neg hje,List.getElem?_eq_none (by simp; omega),List.getElem?_eq_none (by omega)]; rfl
 | some y =>
  obtain ⟨i,L⟩:=y
  have hi:i<m.length:=(List.getElem?_eq_some_iff.1 (Xw hf)).1
  have hx:Jcv (some (i,L)) m.length=i:=rfl
  rw [hx,if_pos (by omega),List.getElem?_set,hl,if_pos hi]
  by_cases hj:i=j
  ·subst hj; simp
  ·rw [if_neg hj,if_neg (fun e=>hj e.symm),e2]
theorem Jx3 {m:List (κ×List ν)} {k:κ} {M:List ν} {tk:Nat→Nat} (t' l:Nat) (hH:s.H l=some (.mapo (esO m) (Enc.k ν) (Enc.b ν) tk)) (h:Jxq P Ls s=some (l,Enc.pv k,Jp (.own t') M))
  (h2:Qc P Gl d (Ls.drop 1) (({ s with H:=upd s.H l (some (.mapo (esO (Se k M m)) (Enc.k ν) (Enc.b ν) (Jbv k m t' tk))) }:PSt).put (Zu Ls) .any) Q):Qc P Gl d Ls s Q:=by
 refine Ir (v:=.any) (e:=.obj l (.mapo (esO (Se k M m)) (Enc.k ν) (Enc.b ν) (Jbv k m t' tk))) ?_ h2
 unfold Jxq at h
 split at h
 ·rename_i o rest s
  split at h
  ·rename_i t x k' y hop
   split at h
   ·rename_i l' d z dv hx hm hdv
    split at h
    ·rename_i hd
     simp only [Option.some.injEq,Prod.mk.injEq] at h
     obtain ⟨rfl,hk,hy⟩:=h
     simp only [Xo,hop,Wz,evO,Cq,if_true,evE,hx,hH,hm,hdv,Jcu]
     rw [hy,hk]
     rw [hk] at hd
     simp only [Jp]
     rw [if_pos (by simp [hd]),Jox]
     simp only [Option.map_some]
     have e1:=Jwp k M m
     cases hf:Zt k m with
     | none =>
      simp only [Option.map_none]
      have e2:(fun j=>if j=(esO m).length then t' else tk j)=Jbv k m t' tk:=by
       funext j; simp [Jbv,Jcv,hf,esO]
      rw [hf] at e1
      simp only [Jcv] at e1
      rw [show (esO m).length=m.length by simp [esO]] at e2 ⊢
      rw [e1,e2]
     | some y =>
      obtain ⟨i,L⟩:=y
      simp only [Option.map_some]
      have e2:(fun j=>if j=i then t' else tk j)=Jbv k m t' tk:=by
       funext j; simp [Jbv,Jcv,hf]
      rw [hf] at e1
      simp only [Jcv] at e1
      rw [e1,e2]
    ·cases h
   ·cases h
  ·cases h
 ·cases h
/-- An append to a list whose token is not written out. -/
theorem Kdq {α:Type} [Enc α] {L ys M:List α} {tk:Nat} {T:Nat→Option (Nat×Nat)} (hM:Vg L ys=some M) (hT0:s.T=T) (hT:T tk=some ((L.map cellsOf).length,Enc.k α)) (h:Js4 P Ls s=some (tk,false,Enc.k α,Enc.b α,L.map cellsOf,ys.map cellsOf))
  (h2:Qc P Gl d (Ls.drop 1) (({ s with T:=upd T tk (some ((M.map cellsOf).length,Enc.k α)) }:PSt).put (Zu Ls) (Jp (.own tk) M)) Q):Qc P Gl d Ls s Q:=by
 subst hT0
 exact Vv hM hT h h2
end
/-! ### States with such a map -/
theorem Jtp {H H':Nat→Option Uk} (hH:∀ l,(H l).isSome=true→(H' l).isSome=true):∀ p,Joj H p=true→Joj H' p=true:=by
 intro p h
 cases p <;> simp only [Joj] at h ⊢
 exact hH _ h
theorem Jeo {H H':Nat→Option Uk} {T T':Nat→Option (Nat×Nat)} (hH:∀ l,(H l).isSome=true→(H' l).isSome=true) (hT:∀ t,(T t).isSome=true→(T' t).isSome=true):∀ p,Me H T p=true→Me H' T' p=true:=by
 intro p h
 cases p
 case lst o k b xss=>cases o <;> simp only [Me] at h ⊢; exact hT _ h
 case fn f caps =>
  simp only [Me,List.all_eq_true] at h ⊢
  exact fun x hx=>Jtp hH x (h x hx)
 all_goals (simp only [Me] at h ⊢ <;> first|exact hT _ h|exact hH _ h)
theorem Jkm {H H':Nat→Option Uk} {T T':Nat→Option (Nat×Nat)} (hH:∀ l,(H l).isSome=true→(H' l).isSome=true) (hT:∀ t,(T t).isSome=true→(T' t).isSome=true):∀ p,Rn H T p=true→Rn H' T' p=true:=by
 intro p h
 cases p
 case agg cs =>
  simp only [Rn,List.all_eq_true] at h ⊢
  exact fun x hx=>Jeo hH hT x (h x hx)
 all_goals (simp only [Rn] at h ⊢; exact Jeo hH hT _ h)
theorem Jtw {H H':Nat→Option Uk} {T T':Nat→Option (Nat×Nat)} (hH:∀ l,(H l).isSome=true→(H' l).isSome=true) (hT:∀ t,(T t).isSome=true→(T' t).isSome=true):∀ p,Hd H T p=true→Hd H' T' p=true:=by
 intro p h
 cases p
 case tup cs =>
  simp only [Hd,List.all_eq_true] at h ⊢
  exact fun x hx=>Jkm hH hT x (h x hx)
 all_goals (simp only [Hd] at h ⊢; exact Jkm hH hT _ h)
theorem Jug {H H':Nat→Option Uk} {T T':Nat→Option (Nat×Nat)} (hH:∀ l,(H l).isSome=true→(H' l).isSome=true) (hT:∀ t,(T t).isSome=true→(T' t).isSome=true):∀ p,Jeb H T p=true→Jeb H' T' p=true:=by
 intro p h
 cases p
 case cells cs =>
  simp only [Jeb,List.all_eq_true] at h ⊢
  exact fun x hx=>Jeo hH hT x (h x hx)
 all_goals exact h
/-- j's parts, the map at label l, and tokens. -/
def Jbj (j:JS) (n l:Nat) (ob:Uk) (T:Nat→Option (Nat×Nat)):PSt:={ (j.st n) with H:=upd (j.st n).H l (some ob),T:=T }
def JS.dum (j:JS) (l:Nat):JS:=⟨j.tm,(l,.map [])::j.H,[],[]⟩
theorem Jdd {α:Type} (l:Nat) (x:α) (H:List (Nat×α)):Sg ((l,x)::H)=upd (Sg H) l (some x):=by
 funext i
 unfold Sg upd
 rw [List.lookup_cons]
 by_cases h:i=l
 ·subst h; simp
 ·rw [if_neg h]
  have:(i == l)=false:=by simpa using h
  rw [this]
theorem Jur {j:JS} {n l:Nat} {ob ob':Uk} {T':Nat→Option (Nat×Nat)} {s:PSt} (hok:((j.dum l).ok&&(j.H.lookup l).isNone&&j.T.isEmpty&&j.X.isEmpty)=true) (h:j.seen s=j.told n) (hH:s.H l=some ob) (hT:∀ t x,T' t=some x→s.T t=some x)
  (hw:WkO (Jbj j n l ob' T').H T' ob ob'):Jc0 s (Jbj j n l ob' T'):=by
 simp only [Bool.and_eq_true] at hok
 obtain ⟨⟨⟨hok,hl⟩,hjT⟩,hjX⟩:=hok
 simp only [JS.seen,JS.told,Prod.mk.injEq] at h
 obtain ⟨h1,h2,h3,h4,h5,h6'⟩:=h
 simp only [JS.ok,JS.dum,Bool.and_eq_true] at hok
 obtain ⟨hok,_⟩:=hok
 have hn1:n % 100000=s.tm.length:=h1.1.symm
 have hn2:n / 100000=s.m:=h1.2.symm
 have hHm:∀ i,(Sg ((l,.map [])::j.H) i).isSome=true→((Jbj j n l ob' T').H i).isSome=true:=fun i hi=>by
  rw [Jdd] at hi
  show (upd (Sg j.H) l (some ob') i).isSome=true
  by_cases e:i=l
  ·subst e; rw [Qi]; rfl
  ·rw [Kr _ _ _ _ e] at hi ⊢; exact hi
 have hTm:∀ t,((Sg ([]:List (Nat×(Nat×Nat)))) t).isSome=true→(T' t).isSome=true:=fun t ht=>by cases ht
 refine ⟨⟨by simp [Jbj,JS.st,Tn,hn1],fun i q p hq hp=>?_⟩,fun l' ob1 hob=>?_,hT,fun t x hx=>?_,hn2⟩
 ·have hi:i<n % 100000:=by rw [hn1]; exact (List.getElem?_eq_some_iff.1 hq).1
  simp only [Jbj,JS.st] at hp
  rw [Jfb _ _ _ _ hi,Nat.zero_add] at hp
  cases hlk:j.tm.lookup i with
  | none=>rw [hlk] at hp; cases hp; exact .any _
  | some p' =>
   rw [hlk] at hp
   have hpp:p'=p:=by simpa using hp
   subst hpp
   have hm:=Iq hlk
   have e:=Oq h3 _ hm
   have hg:s.tm.getD i .any=q:=by rw [List.getD_eq_getElem?_getD,hq]; rfl
   simp only [hg] at e
   have hn:=List.all_eq_true.1 h2 _ hm
   have hlive:=Jtw hHm hTm _ (List.all_eq_true.1 hok.1 _ hm)
   simp only [hg] at hn
   have:=Rk (p:=p') (q:=q) (H:=(Jbj j n l ob' T').H) (T:=T') hn (by rw [e]; exact hlive)
   rwa [e] at this
 ·have hob:upd (Sg j.H) l (some ob') l'=some ob1:=hob
  by_cases e:l'=l
  ·subst e
   rw [Qi] at hob; cases hob
   exact ⟨ob,hH,hw⟩
  ·rw [Kr _ _ _ _ e] at hob
   have hm:=Iq hob
   have e:=Oq h4 _ hm
   obtain ⟨ob2,h6,h7⟩:=Option.map_eq_some_iff.1 e
   refine ⟨ob2,h6, ?_⟩
   have hlv:=Jug hHm hTm _ (List.all_eq_true.1 hok.2 _ (List.mem_cons_of_mem _ hm))
   have:=Jmr (p:=ob1) (q:=ob2) (H:=(Jbj j n l ob' T').H) (T:=T') (by rw [h7]; exact hlv)
   rwa [h7] at this
 ·have hx:Sg j.X t=some x:=hx
  have:j.X=[]:=by simpa using hjX
  rw [this] at hx; cases hx
section
variable {κ ν:Type} [Key κ] [Enc ν] {s:PSt}
theorem Jv6 (m:List (κ×List ν)) (i:Nat) (hi:i<(esO m).length):(Rq m (Vf i)).isSome=true:=by
 have hi:i<m.length:=by simpa [esO] using hi
 unfold Rq Vf
 rw [if_pos (by omega),show 499000000+i - 499000000=i by omega,List.getElem?_eq_getElem hi]; rfl
theorem Jv7 {k:κ} {m:List (κ×List ν)} {i:Nat} {L:List ν} (h:Zt k m=some (i,L)):Rq m (Vf i)=some ((L.map cellsOf).length,Enc.k ν):=by
 unfold Rq Vf
 rw [if_pos (by omega),show 499000000+i - 499000000=i by omega,Xw h]; rfl
theorem Jsm {k:κ} {m:List (κ×List ν)} {M:List ν} {i:Nat} (hi:i=Jcv (Zt k m) m.length):Rq (Se k M m)=upd (Rq m) (Vf i) (some ((M.map cellsOf).length,Enc.k ν)):=by
 funext t
 have e0:∀ mm:List (κ×List ν),Rq mm t=if 499000000≤t then (mm[t - 499000000]?).map fun e=>((e.2.map cellsOf).length,Enc.k ν) else none:=fun _=>rfl
 show Rq (Se k M m) t=if t=Vf i then _ else Rq m t
 rw [e0,e0]
 unfold Vf
 by_cases ht:499000000≤t
 ·rw [if_pos ht,if_pos ht,Jgs,← hi]
  by_cases e:t=499000000+i
  ·subst e
   rw [if_pos rfl,if_pos (by omega)]; rfl
  ·rw [if_neg e,if_neg (by omega)]
 ·rw [if_neg ht,if_neg ht,if_neg (by omega)]
/-- The state behind a piece of code in which the map did not change. -/
theorem Jj8 {j:JS} {n:Nat} (l:Nat) {m:List (κ×List ν)} (hok:((j.dum l).ok&&(j.H.lookup l).isNone&&j.T.isEmpty&&j.X.isEmpty)=true) (h:j.seen s=j.told n) (hH:s.H l=some (.mapo (esO m) (Enc.k ν) (Enc.b ν) Vf)) (hT:s.T=Rq m) :
  Wkr s (Jbj j n l (.mapo (esO m) (Enc.k ν) (Enc.b ν) Vf) (Rq m)):=fun _ _ _ _ _ hi =>
 hi.weak (Jur hok h hH (fun t x e=>by rw [hT]; exact e) (.mapo _ _ _ _ fun i hi=>Jv6 m i hi))
/-- A list of the map has grown. -/
theorem Kbp {j:JS} {n:Nat} (l:Nat) {fk:ν→κ} {x:ν} {m:List (κ×List ν)} {i:Nat} {L:List ν} (hf:Zt (fk x) m=some (i,L)) (hok:((j.dum l).ok&&(j.H.lookup l).isNone&&j.T.isEmpty&&j.X.isEmpty)=true) (h:j.seen s=j.told n)
  (hH:s.H l=some (.mapo (esO (Se (fk x) (L++[x]) m)) (Enc.k ν) (Enc.b ν) (Jbv (fk x) m (Vf i) Vf))) (hT:s.T=upd (Rq m) (Vf i) (some (((L++[x]).map cellsOf).length,Enc.k ν))) :
  Wkr s (Jbj j n l (.mapo (esO (Pa fk x m)) (Enc.k ν) (Enc.b ν) Vf) (Rq (Pa fk x m))):=by
 have htk:Jbv (fk x) m (Vf i) Vf=Vf:=by
  funext q
  unfold Jbv
  rw [show Jcv (Zt (fk x) m) m.length=i by rw [hf]; rfl]
  by_cases e:q=i
  ·rw [if_pos e,e]
  ·rw [if_neg e]
 rw [Jv0 hf]
 rw [htk] at hH
 refine Jj8 l hok h hH ?_
 rw [hT,Jsm (k:=fk x) (M:=L++[x]) (i:=i) (by rw [hf]; rfl)]
/-- The map has a new list, whose token was t. -/
theorem Kbt {j:JS} {n:Nat} (l t:Nat) {fk:ν→κ} {x:ν} {m:List (κ×List ν)} (ht:t<499000000) (hf:Zt (fk x) m=none) (hok:((j.dum l).ok&&(j.H.lookup l).isNone&&j.T.isEmpty&&j.X.isEmpty)=true)
  (h:j.seen (Jpo id (Jdp t (Vf m.length)) s)=j.told n) (hm:m.length<400000000)
  (hH:s.H l=some (.mapo (esO (Se (fk x) [x] m)) (Enc.k ν) (Enc.b ν) (Jbv (fk x) m t Vf))) (hT:s.T=upd (Rq m) t (some (([x].map cellsOf).length,Enc.k ν))) :
  Wkr s (Jbj j n l (.mapo (esO (Pa fk x m)) (Enc.k ν) (Enc.b ν) Vf) (Rq (Pa fk x m))):=by
 rw [Jwj hf]
 have hD:Vf m.length<1000000000:=by unfold Vf; omega
 have hsw:∀ q,Jdp t (Vf m.length) (Vf q)=if q=m.length then t else Vf q:=fun q=>by
  unfold Jdp Vf
  by_cases e:q=m.length
  ·rw [if_neg (by omega),if_pos (by omega),if_pos e]
  ·rw [if_neg (by omega),if_neg (by omega),if_neg e]
 refine Wkr.trans (s2:=Jpo id (Jdp t (Vf m.length)) s) (fun Gl S0 w0 a w hi=>?_) (Jj8 l hok h ?_ ?_)
 ·obtain ⟨g,rfl,hg⟩:=hi
  exact ⟨Tp id (Jdp t (Vf m.length)) g,rfl,hg.ren (fun _=>rfl) (Jws t _) (fun _ _=>rfl) (fun i hi=>by
   unfold Jdp
   rw [if_neg (by omega),if_neg (by omega)])⟩
 ·show (s.H l).map (Jy8 id (Jdp t (Vf m.length)))=_
  rw [hH]
  simp only [Option.map_some,Jy8]
  congr 1
  congr 1
  funext q
  unfold Jbv
  rw [show Jcv (Zt (fk x) m) m.length=m.length by rw [hf]; rfl]
  by_cases e:q=m.length
  ·rw [if_pos e,e]
   unfold Jdp; rw [if_pos rfl]
  ·rw [if_neg e,hsw,if_neg e]
 ·show (fun q=>s.T (Jdp t (Vf m.length) q))=_
  rw [hT,Jsm (k:=fk x) (M:=[x]) (i:=m.length) (by rw [hf]; rfl)]
  funext q
  unfold upd
  by_cases e:q=Vf m.length
  ·subst e
   rw [hsw,if_pos rfl,if_pos rfl,if_pos rfl]
  ·rw [if_neg e]
   by_cases e2:q=t
   ·subst e2
    have:Jdp q (Vf m.length) q=Vf m.length:=by unfold Jdp; rw [if_pos rfl]
    rw [this,if_neg (by unfold Vf; omega)]
    unfold Rq Vf
    rw [if_pos (by omega),if_neg (by omega),List.getElem?_eq_none (by omega)]; rfl
   ·have:Jdp t (Vf m.length) q=q:=by unfold Jdp; rw [if_neg e2,if_neg e]
    rw [this,if_neg e2]
/-- Nothing is stored in the map from here on but by its keys. -/
theorem Kar {j:JS} {n:Nat} (l:Nat) {m:List (κ×List ν)} {tk:Nat→Nat} (hok:((j.dum l).ok&&(j.H.lookup l).isNone&&j.T.isEmpty&&j.X.isEmpty)=true) (h:j.seen s=j.told n) (hH:s.H l=some (.mapo (esO m) (Enc.k ν) (Enc.b ν) tk)) :
  Wkr s ((⟨j.tm,(l,.map (Gw m))::j.H,[],[]⟩:JS).st n):=fun _ _ _ _ _ hi=>by
 have hmp:(esO m).map (fun e=>(e.1,PV.lst .frozen (Enc.k ν) (Enc.b ν) e.2))=Gw m:=by
  unfold esO Gw
  rw [List.map_map]; rfl
 have:=hi.weak (Jur (T':=fun _=>none) hok h hH (fun t x e=>by cases e) (.mapf _ _ _ _))
 rw [hmp] at this
 simp only [Bool.and_eq_true] at hok
 have hX:j.X=[]:=by simpa using hok.2
 have e:Jbj j n l (.map (Gw m)) (fun _=>none)=(⟨j.tm,(l,.map (Gw m))::j.H,[],[]⟩:JS).st n:=by
  unfold Jbj JS.st
  simp only [Jdd,hX]
  rfl
 rwa [e] at this
/-- An empty map becomes such a one. -/
theorem Kb7 {j:JS} {n:Nat} (l:Nat) (hok:(j.dum l).ok=true) (hX:(j.T.isEmpty&&j.X.isEmpty)=true) (hk:Enc.k ν≠0) (h:(j.dum l).seen s=(j.dum l).told n):Wkr s (Jbj j n l (.mapo (esO ([]:List (κ×List ν))) (Enc.k ν) (Enc.b ν) Vf) (Rq ([]:List (κ×List ν)))):=fun Gl S0 w0 a w hi=>by
 simp only [Bool.and_eq_true] at hX
 have h1:=hi.weak (JS.weaker hok h)
 obtain ⟨g,rfl,hg⟩:=h1
 have hl:((j.dum l).st n).H l=some (.map []):=by
  show Sg ((l,.map [])::j.H) l=_
  rw [Jdd,Qi]
 have hgl:g.H l=some (.map []):=by rw [hg.hH]; exact hl
 obtain ⟨o1,o2,o3,arr,clock,b1,b2⟩:=hg.objs l _ hgl
 have harr:arr.toList=[]:=b2.nil_left
 obtain ⟨h2,_⟩:=hg.setObj (l:=l) (ob':=.mapo (esO ([]:List (κ×List ν))) (Enc.k ν) (Enc.b ν) Vf) (w':=g.w) hgl ⟨rfl,rfl,rfl,rfl,fun _ _=>rfl,rfl⟩ (fun cs e=>by cases e)
  (fun g' hg' hw'=>⟨hk,arr,clock,by rw [hw']; exact b1,by simpa [esO] using harr,fun i e m he _=>by simp [esO] at he⟩)
 have e:({ ((j.dum l).st n) with H:=upd ((j.dum l).st n).H l (some (.mapo (esO ([]:List (κ×List ν))) (Enc.k ν) (Enc.b ν) Vf)) }:PSt)=Jbj j n l (.mapo (esO ([]:List (κ×List ν))) (Enc.k ν) (Enc.b ν) Vf) (Rq ([]:List (κ×List ν))):=by
  have hXe:j.X=[]:=by simpa using hX.2
  unfold Jbj JS.st JS.dum
  simp only [Jdd,hXe]
  congr 1
  ·funext i
   unfold upd
   by_cases q:i=l
   ·simp [q]
   ·simp [q]
  ·funext t
   unfold Rq Sg
   split <;> rfl
 rw [e] at h2
 refine ⟨_, ?_,h2⟩
 rfl
omit [Enc ν] in
theorem Ka6 {P:Program} {Gl:Nat→Option (List PV)} {c:Code} {Q:Exit→PSt→Prop} (bs:List ν) (fk:ν→κ) (id:Nat) (S:Nat→List (κ×List ν)→PSt) (F:List (κ×List ν)→PSt) (h0:Wkr s (S 0 []))
  (hstep:∀ i x,bs[i]?=some x→pwp P Gl c (fun e s'=>e=.normal∧Wkr s' (S (i+1) (Pa fk x (grp fk (bs.take i))))) (S i (grp fk (bs.take i))))
  (hend:∀ m,pwp P Gl c (fun e s'=>e=.exit id∧Wkr s' (F m)) (S bs.length m)) (hq:∀ s',Wkr s' (F (grp fk bs))→Q (.exit id) s'):pwp P Gl (.loop c) Q s:=by
 refine Jvx (fun n s=>∃ i,n=bs.length - i∧i≤bs.length∧s=S i (grp fk (bs.take i))) bs.length (s':=S 0 []) ⟨0,rfl,Nat.zero_le _,rfl⟩ h0 ?_
 rintro n _ ⟨i,rfl,hi,rfl⟩
 by_cases hil:i<bs.length
 ·have hx:bs[i]?=some bs[i]:=List.getElem?_eq_getElem hil
  refine Xd (fun e s' hp=>?_) (hstep i _ hx)
  obtain ⟨rfl,hw⟩:=hp
  refine ⟨bs.length - (i+1),_,by omega,⟨i+1,rfl,hil, ?_⟩,hw⟩
  rw [List.take_add_one,hx,← Jzy]; rfl
 ·have:i=bs.length:=by omega
  subst this
  refine Xd (fun e s' hp=>?_) (hend _)
  obtain ⟨rfl,hw⟩:=hp
  rw [List.take_length] at hw
  exact hq s' hw
theorem Jvh {L:List ν} {x:ν} {n:Nat} (h:L.length+1≤n) (h2:n * Enc.b ν≤Kn∧n≤Kn):Vg L [x]=some (L++[x]):=by
 unfold Vg
 rw [if_pos]
 refine ⟨Nat.le_trans (Nat.mul_le_mul_right _ ?_) h2.1, ?_⟩ <;> simp only [List.length_cons,List.length_nil] <;> omega
end
end PM
