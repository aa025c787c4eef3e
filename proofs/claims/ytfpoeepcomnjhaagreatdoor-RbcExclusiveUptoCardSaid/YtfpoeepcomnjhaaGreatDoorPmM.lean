/-
 THE PURE MACHINE, M: maps of lists that grow in place: a loop that sorts the elements of a list by a key.
-/
import Derived.Test.YtfpoeepcomnjhaaGreatDoorPmQt
namespace PM
open Go Go.RowKit
section
variable {P:Program} {Gl:Nat->Option (List PV)} {s:PSt} {c:Code}
def Kkr (I:Nat->PSt->Prop) (n:Nat) (Q:Exit->PSt->Prop):Exit->PSt->Prop
 | .normal,s=>∃ m s',m<n/\I m s'/\Wkr s s'
 | e,s=>Q e s
theorem Ka9 {Q:Exit->PSt->Prop} (I:Nat->PSt->Prop) (n:Nat) {s':PSt} (h0:I n s') (hw:Wkr s s') (hr:∀ n s,I n s->pwp P Gl c (Kkr I n Q) s):pwp P Gl (.loop c) Q s:=by
 intro S0 w0 a w hi;have key:∀ n (a:Act) (w:World),(∃ s,I n s/\Inv Gl S0 w0 s a w)->∀ (b:Frame) (k:List Item) (cs:List Frame),
   ∃ e a' w',(∃ s',Q e s'/\Inv Gl S0 w0 s' a' w')/\Arrives P (lone (b.at a (.code c::.inLoop c::k)) cs w) b k cs e a' w':=by
  intro n;induction n using Nat.strongRecOn with
  | _ n ih =>
   rintro a w ⟨s,hI,hi⟩ b k cs;obtain ⟨e,a1,w1,⟨s1,hq,hi1⟩,harr⟩:=hr n s hI S0 w0 a w hi b (.inLoop c::k) cs;cases e with
   | normal =>
    obtain ⟨m,s2,hm,hI2,hw2⟩:=hq;obtain ⟨e2,a2,w2,hq2,harr2⟩:=ih m hm a1 w1 ⟨s2,hI2,hw2 Gl S0 w0 a1 w1 hi1⟩ b k cs;exact ⟨e2,a2,w2,hq2,.of_steps (Steps.trans harr (.one step_inLoop)) harr2⟩
   | exit id=>exact ⟨_,a1,w1,⟨s1,hq,hi1⟩,.pass (x:=.inLoop c) rfl (fun _ _=>.inl (by simp)) harr⟩
   | goto l=>exact ⟨_,a1,w1,⟨s1,hq,hi1⟩,.pass (x:=.inLoop c) rfl (fun _ _=>.inl (by simp)) harr⟩
   | ret=>exact ⟨_,a1,w1,⟨s1,hq,hi1⟩,.pass (x:=.inLoop c) rfl (fun _ _=>.inl (by simp)) harr⟩
   | panic ch=>exact ⟨_,a1,w1,⟨s1,hq,hi1⟩,.pass (x:=.inLoop c) rfl (fun _ _=>.inl (by simp)) harr⟩
   | outgrown=>exact ⟨_,a1,w1,⟨s1,hq,hi1⟩,.pass (x:=.inLoop c) rfl (fun _ _=>.inl (by simp)) harr⟩
 intro b k cs;obtain ⟨e,a',w',hq,harr⟩:=key n a w ⟨s',h0,hw Gl S0 w0 a w hi⟩ b k cs;exact ⟨e,a',w',hq,.of_steps (.one step_loop) harr⟩
end
section
variable {κ ν:Type} [Key κ]
def Br (k:κ):List (κ×List ν)->Option (Nat×List ν)
 | []=>none
 | e::es=>if k=e.1 then some (0,e.2) else (Br k es).map fun x=>(x.1+1,x.2)
def Jez {β:Type} (r:Option (Nat×β)) (n:Nat):Nat:=match r with|some (i,_)=>i|none=>n
def Sr (fk:ν->κ) (x:ν) (m:List (κ×List ν)):List (κ×List ν):=Gw (fk x) (((Br (fk x) m).map (·.2)).getD []++[x]) m
def grp (fk:ν->κ) (l:List ν):List (κ×List ν):=l.foldl (fun m x=>Sr fk x m) []
def Jl7 [Enc ν] (fk:ν->κ) (l:List ν):Option (List (κ×List ν)):=if l.length<=1048576/\Enc.b ν<=1048576 then some (grp fk l) else none
theorem Jtp [Enc ν] {fk:ν->κ} {l:List ν} {m:List (κ×List ν)} (h:Jl7 fk l=some m):m=grp fk l/\(l.length * Enc.b ν<=Jw/\l.length<=Jw)/\l.length<=1048576:=by
 unfold Jl7 at h;split at h
 ·rename_i hc;cases h;have:=Nat.mul_le_mul hc.1 hc.2;exact ⟨rfl,⟨by simp only [Jw]; omega,by simp only [Jw]; omega⟩,hc.1⟩
 ·cases h
theorem Kgm (fk:ν->κ) (l:List ν) (x:ν):grp fk (l++[x])=Sr fk x (grp fk l):=by simp [grp]
theorem Kbc {fk:ν->κ} {x:ν} {m:List (κ×List ν)} (h:Br (fk x) m=none):Sr fk x m=Gw (fk x) [x] m:=by simp [Sr,h]
theorem Ka5 {fk:ν->κ} {x:ν} {m:List (κ×List ν)} {i:Nat} {L:List ν} (h:Br (fk x) m=some (i,L)):Sr fk x m=Gw (fk x) (L++[x]) m:=by simp [Sr,h]
theorem Jbo {k:κ}:∀ {m:List (κ×List ν)} {i:Nat} {L:List ν},Br k m=some (i,L)->m[i]? = some (k,L)
 | [],_,_,h=>by cases h
 | e::es,i,L,h=>by
  unfold Br at h
  by_cases hk:k=e.1
  ·rw [if_pos hk] at h; cases h; subst hk; rfl
  ·rw [if_neg hk] at h;obtain ⟨x,hx,he⟩:=Option.map_eq_some_iff.1 h;cases he
   simpa using Jbo (i:=x.1) (L:=x.2) hx
theorem Kcg {β:Type} (r:Option (Nat×β)) (n:Nat):Jez (r.map fun x=>(x.1+1,x.2)) (n+1)=Jez r n+1:=by cases r <;> rfl
theorem Jhg {k:κ} {v:List ν}:∀ {m:List (κ×List ν)} (j:Nat),(Gw k v m)[j]? = if j=Jez (Br k m) m.length then some (k,v) else m[j]?
 | [],j=>by
  cases j <;> simp [Gw,Br,Jez]
 | e::es,j=>by
  unfold Gw Br
  by_cases hk:k=e.1
  ·rw [if_pos hk,if_pos hk];show _=if j=0 then _ else _
   cases j <;> simp
  ·rw [if_neg hk,if_neg hk,List.length_cons,Kcg];cases j with
   | zero=>rw [if_neg (by omega)]; rfl
   | succ j =>
    rw [List.getElem?_cons_succ,Jhg j,List.getElem?_cons_succ]
    by_cases hj:j=Jez (Br k es) es.length
    ·rw [if_pos hj,if_pos (by omega)]
    ·rw [if_neg hj,if_neg (by omega)]
theorem Kgf {fk:ν->κ} {x:ν} {m:List (κ×List ν)} {n:Nat} (h:∀ e∈m,e.2.length<=n):∀ e∈Sr fk x m,e.2.length<=n+1:=by
 intro e he;obtain ⟨j,hj⟩:=List.getElem?_of_mem he;unfold Sr at hj;rw [Jhg] at hj
 by_cases hc:j=Jez (Br (fk x) m) m.length
 ·rw [if_pos hc] at hj;cases hj;cases hf:Br (fk x) m with
  | none=>simp
  | some y =>
   have:=h _ (List.mem_of_getElem? (Jbo (i:=y.1) (L:=y.2) hf));simp; exact this
 ·rw [if_neg hc] at hj;have:=h e (List.mem_of_getElem? hj); omega
theorem Kii (fk:ν->κ) (l:List ν):∀ e∈grp fk l,e.2.length<=l.length:=by
 suffices ∀ (l:List ν) (m:List (κ×List ν)) (n:Nat),(∀ e∈m,e.2.length<=n)->∀ e∈l.foldl (fun m x=>Sr fk x m) m,e.2.length<=n+l.length by
  intro e he;have:=this l [] 0 (fun e he=>by cases he) e he;omega
 intro l;induction l with
 | nil=>intro m n h e he; exact h e he
 | cons x l ih =>
  intro m n h e he;have:=ih (Sr fk x m) (n+1) (Kgf h) e he;simp only [List.length_cons]; omega
theorem Jsn {fk:ν->κ} {bs:List ν} {i:Nat} {x:ν} (hx:bs[i]? = some x) {j:Nat} {L:List ν} (hf:Br (fk x) (grp fk (bs.take i))=some (j,L)):L.length+1<=bs.length:=by
 have h1:=Kii fk (bs.take i) _ (List.mem_of_getElem? (Jbo hf));have h2:=(List.getElem?_eq_some_iff.1 hx).1;simp only [List.length_take] at h1;omega
theorem Jju {k:κ} {v:List ν}:∀ m:List (κ×List ν),(Gw k v m).length<=m.length+1
 | []=>by simp [Gw]
 | e::es=>by
  have:=Jju (k:=k) (v:=v) es;unfold Gw;split <;> simp <;> omega
theorem Jxk (fk:ν->κ) (l:List ν):(grp fk l).length<=l.length:=by
 suffices ∀ (l:List ν) (m:List (κ×List ν)),(l.foldl (fun m x=>Sr fk x m) m).length<=m.length+l.length by simpa [grp] using this l []
 intro l;induction l with
 | nil=>intro m; simp
 | cons x l ih =>
  intro m;have h1:=ih (Sr fk x m);have h2:(Sr fk x m).length<=m.length+1:=Jju m;simp only [List.foldl_cons,List.length_cons]; omega
end
section
variable {κ ν:Type} [Key κ] [Enc ν] {P:Program} {Gl:Nat->Option (List PV)} {s:PSt} {d:Bool} {Ls:List (Oper×Gd)} {Q:PSt->Prop}
def Vg (i:Nat):Nat:=499000000+i
def esO (m:List (κ×List ν)):List (PV×List (List PV)):=m.map fun e=>(Enc.pv e.1,e.2.map cellsOf)
def Xi (m:List (κ×List ν)) (t:Nat):Option (Nat×Nat):=if 499000000<=t then (m[t - 499000000]?).map fun e=>((e.2.map cellsOf).length,Enc.k ν) else none
theorem Jsf (k:κ):∀ m:List (κ×List ν),Jh1 (Enc.pv k) (esO m)=some ((Br k m).map fun x=>(x.1,x.2.map cellsOf))
 | []=>rfl
 | e::es=>by
  have ih:=Jsf k es;unfold esO at ih ⊢;simp only [List.map_cons,Jh1,Key.keq,Br]
  by_cases h:k=e.1
  ·simp [h]
  ·simp only [h,decide_false,if_false,ih,Option.map_some,Option.map_map]
   rfl
def Kka (P:Program):List (Oper×Gd)->PSt->Option (Nat×PV)
 | (o,.always)::_,s=>match o.op with
  | .lookup t x k false=>match s.ev x,Jb6 P t with
   | .mp l,some (d,.nil)=>if Gx d (s.ev k)=true then some (l,s.ev k) else none
   | _,_=>none
  | _=>none
 | _,_=>none
theorem Kl8 {m:List (κ×List ν)} {k:κ} {tk:Nat->Nat} (l:Nat) (hH:s.H l=some (.mapo (esO m) (Enc.k ν) (Enc.b ν) tk)) (h:Kka P Ls s=some (l,Enc.pv k))
  (h2:Jv P Gl d (Ls.drop 1) (s.put (Uj Ls) (match Br k m with|some (i,L)=>Jh (.own (tk i)) L|none=>.nil)) Q):Jv P Gl d Ls s Q:=by
 refine Bu (e:=.none) ?_ h2;unfold Kka at h;split at h
 ·rename_i o rest s;split at h
  ·rename_i t x k' hop;split at h
   ·rename_i l' d hx hm;split at h
    ·rename_i hd;simp only [Option.some.injEq,Prod.mk.injEq] at h;obtain ⟨rfl,hk⟩:=h;simp only [Nj,hop,Vn,evO,Bf,Bool.false_eq_true,if_false,ev1,hx,hH,Tt,hm];rw [if_pos hd,hk,Jsf];cases Br k m <;> rfl
    ·cases h
   ·cases h
  ·cases h
 ·cases h
def Kd9 (P:Program):List (Oper×Gd)->PSt->Option (Nat×PV×PV)
 | (o,.always)::_,s=>match o.op with
  | .mapUpdate t m k x=>match s.ev m,Jb6 P t,Mf (s.ev x) with
   | .mp l,some (d,_),some _=>if Gx d (s.ev k)=true then some (l,s.ev k,s.ev x) else none
   | _,_,_=>none
  | _=>none
 | _,_=>none
def Jex (k:κ) (m:List (κ×List ν)) (t:Nat) (tk:Nat->Nat) (j:Nat):Nat:=if j=Jez (Br k m) m.length then t else tk j
theorem Ka7 (k:κ) (M:List ν) (m:List (κ×List ν)):Jsg (esO m) (Jez (Br k m) m.length) (Enc.pv k,M.map cellsOf)=esO (Gw k M m):=by
 apply List.ext_getElem?;intro j;have hl:(esO m).length=m.length:=by simp [esO]
 have e:(esO (Gw k M m))[j]? = ((Gw k M m)[j]?).map fun e=>((Enc.pv e.1:PV),e.2.map cellsOf):=by simp [esO]
 have e2:(esO m)[j]? = (m[j]?).map fun e=>((Enc.pv e.1:PV),e.2.map cellsOf):=by simp [esO]
 rw [e,Jhg];unfold Jsg;cases hf:Br k m with
 | none =>
  have hx:Jez (none:Option (Nat×List ν)) m.length=m.length:=rfl;rw [hx,if_neg (by omega),List.getElem?_append,hl]
  by_cases hj:j<m.length
  ·rw [if_pos hj,if_neg (by omega),e2]
  ·rw [if_neg hj]
   by_cases hje:j=m.length
   ·subst hje; simp
   ·rw [if_neg hje,List.getElem?_eq_none (by simp; omega),List.getElem?_eq_none (by omega)]; rfl
 | some y =>
  obtain ⟨i,L⟩:=y;have hi:i<m.length:=(List.getElem?_eq_some_iff.1 (Jbo hf)).1;have hx:Jez (some (i,L)) m.length=i:=rfl;rw [hx,if_pos (by omega),List.getElem?_set,hl,if_pos hi]
  by_cases hj:i=j
  ·subst hj; simp
  ·rw [if_neg hj,if_neg (fun e=>hj e.symm),e2]
theorem Kg1 {m:List (κ×List ν)} {k:κ} {M:List ν} {tk:Nat->Nat} (t' l:Nat) (hH:s.H l=some (.mapo (esO m) (Enc.k ν) (Enc.b ν) tk)) (h:Kd9 P Ls s=some (l,Enc.pv k,Jh (.own t') M))
  (h2:Jv P Gl d (Ls.drop 1) (({ s with H:=upd s.H l (some (.mapo (esO (Gw k M m)) (Enc.k ν) (Enc.b ν) (Jex k m t' tk))) }:PSt).put (Uj Ls) .any) Q):Jv P Gl d Ls s Q:=by
 refine Bu (v:=.any) (e:=.obj l (.mapo (esO (Gw k M m)) (Enc.k ν) (Enc.b ν) (Jex k m t' tk))) ?_ h2;unfold Kd9 at h;split at h
 ·rename_i o rest s;split at h
  ·rename_i t x k' y hop;split at h
   ·rename_i l' d z dv hx hm hdv;split at h
    ·rename_i hd;simp only [Option.some.injEq,Prod.mk.injEq] at h;obtain ⟨rfl,hk,hy⟩:=h;simp only [Nj,hop,Vn,evO,Bf,if_true,evE,hx,hH,hm,hdv,Jdp];rw [hy,hk];rw [hk] at hd;simp only [Jh];rw [if_pos (by simp [hd]),Jsf];simp only [Option.map_some];have e1:=Ka7 k M m;cases hf:Br k m with
     | none =>
      simp only [Option.map_none];have e2:(fun j=>if j=(esO m).length then t' else tk j)=Jex k m t' tk:=by
       funext j; simp [Jex,Jez,hf,esO]
      rw [hf] at e1;simp only [Jez] at e1;rw [show (esO m).length=m.length by simp [esO]] at e2 ⊢;rw [e1,e2]
     | some y =>
      obtain ⟨i,L⟩:=y;simp only [Option.map_some];have e2:(fun j=>if j=i then t' else tk j)=Jex k m t' tk:=by
       funext j; simp [Jex,Jez,hf]
      rw [hf] at e1;simp only [Jez] at e1;rw [e1,e2]
    ·cases h
   ·cases h
  ·cases h
 ·cases h
theorem Klw {α:Type} [Enc α] {L ys M:List α} {tk:Nat} {T:Nat->Option (Nat×Nat)} (hM:Uq L ys=some M) (hT0:s.T=T) (hT:T tk=some ((L.map cellsOf).length,Enc.k α)) (h:Jjo P Ls s=some (tk,false,Enc.k α,Enc.b α,L.map cellsOf,ys.map cellsOf))
  (h2:Jv P Gl d (Ls.drop 1) (({ s with T:=upd T tk (some ((M.map cellsOf).length,Enc.k α)) }:PSt).put (Uj Ls) (Jh (.own tk) M)) Q):Jv P Gl d Ls s Q:=by
 subst hT0;exact Kjr hM hT h h2
end
theorem Jwp {H H':Nat->Option Uc} (hH:∀ l,(H l).isSome=true->(H' l).isSome=true):∀ p,Jpd H p=true->Jpd H' p=true:=by
 intro p h;cases p <;> simp only [Jpd] at h ⊢;exact hH _ h
theorem Jf3 {H H':Nat->Option Uc} {T T':Nat->Option (Nat×Nat)} (hH:∀ l,(H l).isSome=true->(H' l).isSome=true) (hT:∀ t,(T t).isSome=true->(T' t).isSome=true):∀ p,Mz H T p=true->Mz H' T' p=true:=by
 intro p h;cases p
 case lst o k b xss=>cases o <;> simp only [Mz] at h ⊢; exact hT _ h
 case fn f caps =>
  simp only [Mz,List.all_eq_true] at h ⊢;exact fun x hx=>Jwp hH x (h x hx)
 all_goals (simp only [Mz] at h ⊢ <;> first|exact hT _ h|exact hH _ h)
theorem Jmj {H H':Nat->Option Uc} {T T':Nat->Option (Nat×Nat)} (hH:∀ l,(H l).isSome=true->(H' l).isSome=true) (hT:∀ t,(T t).isSome=true->(T' t).isSome=true):∀ p,Jae H T p=true->Jae H' T' p=true:=by
 intro p h;cases p
 case agg cs =>
  simp only [Jae,List.all_eq_true] at h ⊢;exact fun x hx=>Jf3 hH hT x (h x hx)
 all_goals (simp only [Jae] at h ⊢; exact Jf3 hH hT _ h)
theorem Jxz {H H':Nat->Option Uc} {T T':Nat->Option (Nat×Nat)} (hH:∀ l,(H l).isSome=true->(H' l).isSome=true) (hT:∀ t,(T t).isSome=true->(T' t).isSome=true):∀ p,Gb H T p=true->Gb H' T' p=true:=by
 intro p h;cases p
 case tup cs =>
  simp only [Gb,List.all_eq_true] at h ⊢;exact fun x hx=>Jmj hH hT x (h x hx)
 all_goals (simp only [Gb] at h ⊢; exact Jmj hH hT _ h)
theorem Jwd {H H':Nat->Option Uc} {T T':Nat->Option (Nat×Nat)} (hH:∀ l,(H l).isSome=true->(H' l).isSome=true) (hT:∀ t,(T t).isSome=true->(T' t).isSome=true):∀ p,Jdd H T p=true->Jdd H' T' p=true:=by
 intro p h;cases p
 case cells cs =>
  simp only [Jdd,List.all_eq_true] at h ⊢;exact fun x hx=>Jf3 hH hT x (h x hx)
 all_goals exact h
def Jdf (j:JS) (n l:Nat) (ob:Uc) (T:Nat->Option (Nat×Nat)):PSt:={ (j.st n) with H:=upd (j.st n).H l (some ob),T:=T }
def JS.dum (j:JS) (l:Nat):JS:=⟨j.tm,(l,.map [])::j.H,[],[]⟩
theorem Je3 {α:Type} (l:Nat) (x:α) (H:List (Nat×α)):Jal ((l,x)::H)=upd (Jal H) l (some x):=by
 funext i;unfold Jal upd;rw [List.lookup_cons]
 by_cases h:i=l
 ·subst h; simp
 ·rw [if_neg h];have:(i == l)=false:=by simpa using h
  rw [this]
theorem Jz6 {j:JS} {n l:Nat} {ob ob':Uc} {T':Nat->Option (Nat×Nat)} {s:PSt} (hok:((j.dum l).ok&&(j.H.lookup l).isNone&&j.T.isEmpty&&j.X.isEmpty)=true) (h:j.seen s=j.told n) (hH:s.H l=some ob) (hT:∀ t x,T' t=some x->s.T t=some x)
  (hw:WkO (Jdf j n l ob' T').H T' ob ob'):Jel s (Jdf j n l ob' T'):=by
 simp only [Bool.and_eq_true] at hok;obtain ⟨⟨⟨hok,hl⟩,hjT⟩,hjX⟩:=hok;simp only [JS.seen,JS.told,Prod.mk.injEq] at h;obtain ⟨h1,h2,h3,h4,h5,h6'⟩:=h;simp only [JS.ok,JS.dum,Bool.and_eq_true] at hok;obtain ⟨hok,_⟩:=hok;have hn1:n % 100000=s.tm.length:=h1.1.symm;have hn2:n / 100000=s.m:=h1.2.symm;have hHm:∀ i,(Jal ((l,.map [])::j.H) i).isSome=true->((Jdf j n l ob' T').H i).isSome=true:=fun i hi=>by
  rw [Je3] at hi;show (upd (Jal j.H) l (some ob') i).isSome=true
  by_cases e:i=l
  ·subst e; rw [Ko]; rfl
  ·rw [Jz _ _ _ _ e] at hi ⊢; exact hi
 have hTm:∀ t,((Jal ([]:List (Nat×(Nat×Nat)))) t).isSome=true->(T' t).isSome=true:=fun t ht=>by cases ht
 refine ⟨⟨by simp [Jdf,JS.st,Ja3,hn1],fun i q p hq hp=>?_⟩,fun l' ob1 hob=>?_,hT,fun t x hx=>?_,hn2⟩
 ·have hi:i<n % 100000:=by rw [hn1]; exact (List.getElem?_eq_some_iff.1 hq).1
  simp only [Jdf,JS.st] at hp;rw [Jga _ _ _ _ hi,Nat.zero_add] at hp;cases hlk:j.tm.lookup i with
  | none=>rw [hlk] at hp; cases hp; exact .any _
  | some p' =>
   rw [hlk] at hp;have hpp:p'=p:=by simpa using hp
   subst hpp;have hm:=Mh hlk;have e:=Sd h3 _ hm;have hg:s.tm.getD i .any=q:=by rw [List.getD_eq_getElem?_getD,hq]; rfl
   simp only [hg] at e;have hn:=List.all_eq_true.1 h2 _ hm;have hlive:=Jxz hHm hTm _ (List.all_eq_true.1 hok.1 _ hm);simp only [hg] at hn;have:=Xd (p:=p') (q:=q) (H:=(Jdf j n l ob' T').H) (T:=T') hn (by rw [e]; exact hlive)
   rwa [e] at this
 ·have hob:upd (Jal j.H) l (some ob') l'=some ob1:=hob
  by_cases e:l'=l
  ·subst e;rw [Ko] at hob; cases hob;exact ⟨ob,hH,hw⟩
  ·rw [Jz _ _ _ _ e] at hob;have hm:=Mh hob;have e:=Sd h4 _ hm;obtain ⟨ob2,h6,h7⟩:=Option.map_eq_some_iff.1 e;refine ⟨ob2,h6, ?_⟩;have hlv:=Jwd hHm hTm _ (List.all_eq_true.1 hok.2 _ (List.mem_cons_of_mem _ hm));have:=Jnp (p:=ob1) (q:=ob2) (H:=(Jdf j n l ob' T').H) (T:=T') (by rw [h7]; exact hlv)
   rwa [h7] at this
 ·have hx:Jal j.X t=some x:=hx;have:j.X=[]:=by simpa using hjX
  rw [this] at hx; cases hx
section
variable {κ ν:Type} [Key κ] [Enc ν] {s:PSt}
theorem Kaz (m:List (κ×List ν)) (i:Nat) (hi:i<(esO m).length):(Xi m (Vg i)).isSome=true:=by
 have hi:i<m.length:=by simpa [esO] using hi
 unfold Xi Vg;rw [if_pos (by omega),show 499000000+i - 499000000=i by omega,List.getElem?_eq_getElem hi]; rfl
theorem Kar {k:κ} {m:List (κ×List ν)} {i:Nat} {L:List ν} (h:Br k m=some (i,L)):Xi m (Vg i)=some ((L.map cellsOf).length,Enc.k ν):=by
 unfold Xi Vg;rw [if_pos (by omega),show 499000000+i - 499000000=i by omega,Jbo h]; rfl
theorem Jvm {k:κ} {m:List (κ×List ν)} {M:List ν} {i:Nat} (hi:i=Jez (Br k m) m.length):Xi (Gw k M m)=upd (Xi m) (Vg i) (some ((M.map cellsOf).length,Enc.k ν)):=by
 funext t;have e0:∀ mm:List (κ×List ν),Xi mm t=if 499000000<=t then (mm[t - 499000000]?).map fun e=>((e.2.map cellsOf).length,Enc.k ν) else none:=fun _=>rfl
 show Xi (Gw k M m) t=if t=Vg i then _ else Xi m t
 rw [e0,e0];unfold Vg
 by_cases ht:499000000<=t
 ·rw [if_pos ht,if_pos ht,Jhg,<- hi]
  by_cases e:t=499000000+i
  ·subst e;rw [if_pos rfl,if_pos (by omega)]; rfl
  ·rw [if_neg e,if_neg (by omega)]
 ·rw [if_neg ht,if_neg ht,if_neg (by omega)]
theorem Jlb {j:JS} {n:Nat} (l:Nat) {m:List (κ×List ν)} (hok:((j.dum l).ok&&(j.H.lookup l).isNone&&j.T.isEmpty&&j.X.isEmpty)=true) (h:j.seen s=j.told n) (hH:s.H l=some (.mapo (esO m) (Enc.k ν) (Enc.b ν) Vg)) (hT:s.T=Xi m) :
  Wkr s (Jdf j n l (.mapo (esO m) (Enc.k ν) (Enc.b ν) Vg) (Xi m)):=fun _ _ _ _ _ hi =>
 hi.weak (Jz6 hok h hH (fun t x e=>by rw [hT]; exact e) (.mapo _ _ _ _ fun i hi=>Kaz m i hi))
theorem Khy {j:JS} {n:Nat} (l:Nat) {fk:ν->κ} {x:ν} {m:List (κ×List ν)} {i:Nat} {L:List ν} (hf:Br (fk x) m=some (i,L)) (hok:((j.dum l).ok&&(j.H.lookup l).isNone&&j.T.isEmpty&&j.X.isEmpty)=true) (h:j.seen s=j.told n)
  (hH:s.H l=some (.mapo (esO (Gw (fk x) (L++[x]) m)) (Enc.k ν) (Enc.b ν) (Jex (fk x) m (Vg i) Vg))) (hT:s.T=upd (Xi m) (Vg i) (some (((L++[x]).map cellsOf).length,Enc.k ν))) :
  Wkr s (Jdf j n l (.mapo (esO (Sr fk x m)) (Enc.k ν) (Enc.b ν) Vg) (Xi (Sr fk x m))):=by
 have htk:Jex (fk x) m (Vg i) Vg=Vg:=by
  funext q;unfold Jex;rw [show Jez (Br (fk x) m) m.length=i by rw [hf]; rfl]
  by_cases e:q=i
  ·rw [if_pos e,e]
  ·rw [if_neg e]
 rw [Ka5 hf];rw [htk] at hH;refine Jlb l hok h hH ?_;rw [hT,Jvm (k:=fk x) (M:=L++[x]) (i:=i) (by rw [hf]; rfl)]
theorem Khz {j:JS} {n:Nat} (l t:Nat) {fk:ν->κ} {x:ν} {m:List (κ×List ν)} (ht:t<499000000) (hf:Br (fk x) m=none) (hok:((j.dum l).ok&&(j.H.lookup l).isNone&&j.T.isEmpty&&j.X.isEmpty)=true)
  (h:j.seen (Jqt id (Jfj t (Vg m.length)) s)=j.told n) (hm:m.length<400000000)
  (hH:s.H l=some (.mapo (esO (Gw (fk x) [x] m)) (Enc.k ν) (Enc.b ν) (Jex (fk x) m t Vg))) (hT:s.T=upd (Xi m) t (some (([x].map cellsOf).length,Enc.k ν))) :
  Wkr s (Jdf j n l (.mapo (esO (Sr fk x m)) (Enc.k ν) (Enc.b ν) Vg) (Xi (Sr fk x m))):=by
 rw [Kbc hf];have hD:Vg m.length<1000000000:=by unfold Vg; omega
 have hsw:∀ q,Jfj t (Vg m.length) (Vg q)=if q=m.length then t else Vg q:=fun q=>by
  unfold Jfj Vg
  by_cases e:q=m.length
  ·rw [if_neg (by omega),if_pos (by omega),if_pos e]
  ·rw [if_neg (by omega),if_neg (by omega),if_neg e]
 refine Wkr.trans (s2:=Jqt id (Jfj t (Vg m.length)) s) (fun Gl S0 w0 a w hi=>?_) (Jlb l hok h ?_ ?_)
 ·obtain ⟨g,rfl,hg⟩:=hi;exact ⟨Jbl id (Jfj t (Vg m.length)) g,rfl,hg.ren (fun _=>rfl) (Kbw t _) (fun _ _=>rfl) (fun i hi=>by
   unfold Jfj;rw [if_neg (by omega),if_neg (by omega)])⟩
 ·show (s.H l).map (Kfr id (Jfj t (Vg m.length)))=_;rw [hH];simp only [Option.map_some,Kfr];congr 1;congr 1;funext q;unfold Jex;rw [show Jez (Br (fk x) m) m.length=m.length by rw [hf]; rfl]
  by_cases e:q=m.length
  ·rw [if_pos e,e];unfold Jfj; rw [if_pos rfl]
  ·rw [if_neg e,hsw,if_neg e]
 ·show (fun q=>s.T (Jfj t (Vg m.length) q))=_;rw [hT,Jvm (k:=fk x) (M:=[x]) (i:=m.length) (by rw [hf]; rfl)];funext q;unfold upd
  by_cases e:q=Vg m.length
  ·subst e;rw [hsw,if_pos rfl,if_pos rfl,if_pos rfl]
  ·rw [if_neg e]
   by_cases e2:q=t
   ·subst e2;have:Jfj q (Vg m.length) q=Vg m.length:=by unfold Jfj; rw [if_pos rfl]
    rw [this,if_neg (by unfold Vg; omega)];unfold Xi Vg;rw [if_pos (by omega),if_neg (by omega),List.getElem?_eq_none (by omega)]; rfl
   ·have:Jfj t (Vg m.length) q=q:=by unfold Jfj; rw [if_neg e2,if_neg e]
    rw [this,if_neg e2]
theorem Kid {j:JS} {n:Nat} (l:Nat) {m:List (κ×List ν)} {tk:Nat->Nat} (hok:((j.dum l).ok&&(j.H.lookup l).isNone&&j.T.isEmpty&&j.X.isEmpty)=true) (h:j.seen s=j.told n) (hH:s.H l=some (.mapo (esO m) (Enc.k ν) (Enc.b ν) tk)) :
  Wkr s ((⟨j.tm,(l,.map (Yl m))::j.H,[],[]⟩:JS).st n):=fun _ _ _ _ _ hi=>by
 have hmp:(esO m).map (fun e=>(e.1,PV.lst .frozen (Enc.k ν) (Enc.b ν) e.2))=Yl m:=by
  unfold esO Yl;rw [List.map_map]; rfl
 have:=hi.weak (Jz6 (T':=fun _=>none) hok h hH (fun t x e=>by cases e) (.mapf _ _ _ _));rw [hmp] at this;simp only [Bool.and_eq_true] at hok;have hX:j.X=[]:=by simpa using hok.2
 have e:Jdf j n l (.map (Yl m)) (fun _=>none)=(⟨j.tm,(l,.map (Yl m))::j.H,[],[]⟩:JS).st n:=by
  unfold Jdf JS.st;simp only [Je3,hX]
  rfl
 rwa [e] at this
theorem Kit {j:JS} {n:Nat} (l:Nat) (hok:(j.dum l).ok=true) (hX:(j.T.isEmpty&&j.X.isEmpty)=true) (hk:Enc.k ν≠0) (h:(j.dum l).seen s=(j.dum l).told n):Wkr s (Jdf j n l (.mapo (esO ([]:List (κ×List ν))) (Enc.k ν) (Enc.b ν) Vg) (Xi ([]:List (κ×List ν)))):=fun Gl S0 w0 a w hi=>by
 simp only [Bool.and_eq_true] at hX;have h1:=hi.weak (JS.weaker hok h);obtain ⟨g,rfl,hg⟩:=h1;have hl:((j.dum l).st n).H l=some (.map []):=by
  show Jal ((l,.map [])::j.H) l=_;rw [Je3,Ko]
 have hgl:g.H l=some (.map []):=by rw [hg.hH]; exact hl
 obtain ⟨o1,o2,o3,arr,clock,b1,b2⟩:=hg.objs l _ hgl;have harr:arr.toList=[]:=b2.nil_left;obtain ⟨h2,_⟩:=hg.setObj (l:=l) (ob':=.mapo (esO ([]:List (κ×List ν))) (Enc.k ν) (Enc.b ν) Vg) (w':=g.w) hgl ⟨rfl,rfl,rfl,rfl,fun _ _=>rfl,rfl⟩ (fun cs e=>by cases e)
  (fun g' hg' hw'=>⟨hk,arr,clock,by rw [hw']; exact b1,by simpa [esO] using harr,fun i e m he _=>by simp [esO] at he⟩)
 have e:({ ((j.dum l).st n) with H:=upd ((j.dum l).st n).H l (some (.mapo (esO ([]:List (κ×List ν))) (Enc.k ν) (Enc.b ν) Vg)) }:PSt)=Jdf j n l (.mapo (esO ([]:List (κ×List ν))) (Enc.k ν) (Enc.b ν) Vg) (Xi ([]:List (κ×List ν))):=by
  have hXe:j.X=[]:=by simpa using hX.2
  unfold Jdf JS.st JS.dum;simp only [Je3,hXe];congr 1
  ·funext i;unfold upd
   by_cases q:i=l
   ·simp [q]
   ·simp [q]
  ·funext t;unfold Xi Jal;split <;> rfl
 rw [e] at h2;refine ⟨_, ?_,h2⟩
 rfl
omit [Enc ν] in
theorem Kir {P:Program} {Gl:Nat->Option (List PV)} {c:Code} {Q:Exit->PSt->Prop} (bs:List ν) (fk:ν->κ) (id:Nat) (S:Nat->List (κ×List ν)->PSt) (F:List (κ×List ν)->PSt) (h0:Wkr s (S 0 []))
  (hstep:∀ i x,bs[i]? = some x->pwp P Gl c (fun e s'=>e=.normal/\Wkr s' (S (i+1) (Sr fk x (grp fk (bs.take i))))) (S i (grp fk (bs.take i))))
  (hend:∀ m,pwp P Gl c (fun e s'=>e=.exit id/\Wkr s' (F m)) (S bs.length m)) (hq:∀ s',Wkr s' (F (grp fk bs))->Q (.exit id) s'):pwp P Gl (.loop c) Q s:=by
 refine Ka9 (fun n s=>∃ i,n=bs.length - i/\i<=bs.length/\s=S i (grp fk (bs.take i))) bs.length (s':=S 0 []) ⟨0,rfl,Nat.zero_le _,rfl⟩ h0 ?_;rintro n _ ⟨i,rfl,hi,rfl⟩
 by_cases hil:i<bs.length
 ·have hx:bs[i]? = some bs[i]:=List.getElem?_eq_getElem hil;refine Rv (fun e s' hp=>?_) (hstep i _ hx);obtain ⟨rfl,hw⟩:=hp;refine ⟨bs.length - (i+1),_,by omega,⟨i+1,rfl,hil, ?_⟩,hw⟩;rw [List.take_add_one,hx,<- Kgm]; rfl
 ·have:i=bs.length:=by omega
  subst this;refine Rv (fun e s' hp=>?_) (hend _);obtain ⟨rfl,hw⟩:=hp;rw [List.take_length] at hw;exact hq s' hw
theorem Kal {L:List ν} {x:ν} {n:Nat} (h:L.length+1<=n) (h2:n * Enc.b ν<=Jw/\n<=Jw):Uq L [x]=some (L++[x]):=by
 unfold Uq;rw [if_pos];refine ⟨Nat.le_trans (Nat.mul_le_mul_right _ ?_) h2.1, ?_⟩ <;> simp only [List.length_cons,List.length_nil] <;> omega
end
end PM
