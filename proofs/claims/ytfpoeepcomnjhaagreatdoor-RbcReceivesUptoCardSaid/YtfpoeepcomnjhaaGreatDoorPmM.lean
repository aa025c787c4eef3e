/-
 THE PURE MACHINE, M: maps of lists that grow in place: a loop that sorts the elements of a list by a key.
-/
import Derived.Test.YtfpoeepcomnjhaaGreatDoorPmQt
namespace PM
open Go Go.RowKit
section
variable {P:Program} {Gl:GL} {s:PSt} {c:Code}
def Kea(I:Nat->PSt->Prop)(n:Nat)(Q:Exit->PSt->Prop):Exit->PSt->Prop
 | .normal,s=>∃ m s',m<n/\I m s'/\Wkr s s'
 | e,s=>Q e s
theorem Jxe{Q:Exit->PSt->Prop}(I:Nat->PSt->Prop)(n:Nat){s':PSt}(h0:I n s')(hw:Wkr s s')(hr:∀ n s,I n s->pwp P Gl c (Kea I n Q) s):pwp P Gl (.loop c) Q s:=by
 intro S0 w0 a w hi;have key:∀ n (a:Act) (w:World),(∃ s,I n s/\Inv Gl S0 w0 s a w)->∀ (b:Frame) (k:List Item) (cs:List Frame),
   ∃ e a' w',(∃ s',Q e s'/\Inv Gl S0 w0 s' a' w')/\Arrives P (lone (b.at a (.code c::.inLoop c::k)) cs w) b k cs e a' w':=by
  intro n;induction n using Nat.strongRecOn with
  | _ n ih=>
   rintro a w ⟨s,hI,hi⟩ b k cs;obtain ⟨e,a1,w1,⟨s1,hq,hi1⟩,harr⟩:=hr n s hI S0 w0 a w hi b (.inLoop c::k) cs;cases e with
   | normal=>
    obtain ⟨m,s2,hm,hI2,hw2⟩:=hq;obtain ⟨e2,a2,w2,hq2,harr2⟩:=ih m hm a1 w1 ⟨s2,hI2,hw2 Gl S0 w0 a1 w1 hi1⟩ b k cs;exact ⟨e2,a2,w2,hq2,.of_steps (Steps.trans harr (.one step_inLoop)) harr2⟩
   | exit id=>exact ⟨_,a1,w1,⟨s1,hq,hi1⟩,.pass (x:=.inLoop c) rfl (fun _ _=>.inl sG) harr⟩
   | goto l=>exact ⟨_,a1,w1,⟨s1,hq,hi1⟩,.pass (x:=.inLoop c) rfl (fun _ _=>.inl sG) harr⟩
   | ret=>exact ⟨_,a1,w1,⟨s1,hq,hi1⟩,.pass (x:=.inLoop c) rfl (fun _ _=>.inl sG) harr⟩
   | panic ch=>exact ⟨_,a1,w1,⟨s1,hq,hi1⟩,.pass (x:=.inLoop c) rfl (fun _ _=>.inl sG) harr⟩
   | outgrown=>exact ⟨_,a1,w1,⟨s1,hq,hi1⟩,.pass (x:=.inLoop c) rfl (fun _ _=>.inl sG) harr⟩
 intro b k cs;obtain ⟨e,a',w',hq,harr⟩:=key n a w ⟨s',h0,hw Gl S0 w0 a w hi⟩ b k cs;exact ⟨e,a',w',hq,.of_steps (.one step_loop) harr⟩
end
section
variable {κ ν:Type} [Key κ]
def Cx(k:κ):List (κ×List ν)->Option (Nat×List ν)
 | []=>none
 | e::es=>if k=e.1 then some (0,e.2) else (Cx k es).map fun x=>(x.1+1,x.2)
def Jei{β:Type}(r:Option (Nat×β))(n:Nat):Nat:=match r with|some (i,_)=>i|none=>n
def Jat(fk:ν->κ)(x:ν)(m:List (κ×List ν)):List (κ×List ν):=Fy (fk x) (((Cx (fk x) m).map (·.2)).getD []++[x]) m
def grp(fk:ν->κ)(l:List ν):List (κ×List ν):=l.foldl (fun m x=>Jat fk x m) []
def Jva[Enc ν](fk:ν->κ)(l:List ν):Option (List (κ×List ν)):=if l.length<=1048576/\Enc.b ν<=1048576 then some (grp fk l) else none
theorem Jsw[Enc ν]{fk:ν->κ}{l:List ν}{m:List (κ×List ν)}(h:Jva fk l=some m):m=grp fk l/\(l.length * Enc.b ν<=Jx/\l.length<=Jx)/\l.length<=1048576:=by
 unfold Jva at h;split at h
 ·rename_i hc;cases h;have:=Nat.mul_le_mul hc.1 hc.2;exact ⟨rfl,⟨by simp only [Jx]; omega,by simp only [Jx]; omega⟩,hc.1⟩
 ·cases h
theorem Jzb(fk:ν->κ)(l:List ν)(x:ν):grp fk (l++[x])=Jat fk x (grp fk l):=by simp [grp]
theorem Jxs{fk:ν->κ}{x:ν}{m:List (κ×List ν)}(h:Cx (fk x) m=none):Jat fk x m=Fy (fk x) [x] m:=by simp [Jat,h]
theorem Jx2{fk:ν->κ}{x:ν}{m:List (κ×List ν)}{i:Nat}{L:List ν}(h:Cx (fk x) m=some (i,L)):Jat fk x m=Fy (fk x) (L++[x]) m:=by simp [Jat,h]
theorem Jcd{k:κ}:∀ {m:List (κ×List ν)} {i:Nat} {L:List ν},Cx k m=some (i,L)->m[i]? = some (k,L)
 | [],_,_,h=>by cases h
 | e::es,i,L,h=>by
  unfold Cx at h
  by_cases hk:k=e.1
  ·rw [if_pos hk] at h; cases h; subst hk; rfl
  ·rw [if_neg hk] at h;obtain ⟨x,hx,he⟩:=aC.1 h;cases he
   simpa using Jcd (i:=x.1) (L:=x.2) hx
theorem Jxc{β:Type}(r:Option (Nat×β))(n:Nat):Jei (r.map fun x=>(x.1+1,x.2)) (n+1)=Jei r n+1:=by cases r <;> rfl
theorem Jik{k:κ}{v:List ν}:∀ {m:List (κ×List ν)} (j:Nat),(Fy k v m)[j]? = if j=Jei (Cx k m) m.length then some (k,v) else m[j]?
 | [],j=>by
  cases j <;> simp [Fy,Cx,Jei]
 | e::es,j=>by
  unfold Fy Cx
  by_cases hk:k=e.1
  ·rw [if_pos hk,if_pos hk];show _=if j=0 then _ else _
   cases j <;> simp
  ·rw [if_neg hk,if_neg hk,aE,Jxc];cases j with
   | zero=>rw [if_neg oG]; rfl
   | succ j=>
    rw [cU,Jik j,cU]
    by_cases hj:j=Jei (Cx k es) es.length
    ·rw [if_pos hj,if_pos oG]
    ·rw [if_neg hj,if_neg oG]
theorem Kao{fk:ν->κ}{x:ν}{m:List (κ×List ν)}{n:Nat}(h:∀ e∈m,e.2.length<=n):∀ e∈Jat fk x m,e.2.length<=n+1:=by
 intro e he;obtain ⟨j,hj⟩:=aX he;unfold Jat at hj;rw [Jik] at hj
 by_cases hc:j=Jei (Cx (fk x) m) m.length
 ·rw [if_pos hc] at hj;cases hj;cases hf:Cx (fk x) m with
  | none=>simp
  | some y=>
   have:=h _ (aD (Jcd (i:=y.1) (L:=y.2) hf));simp; exact this
 ·rw [if_neg hc] at hj;have:=h e (aD hj); omega
theorem Kb6(fk:ν->κ)(l:List ν):∀ e∈grp fk l,e.2.length<=l.length:=by
 suffices ∀ (l:List ν) (m:List (κ×List ν)) (n:Nat),(∀ e∈m,e.2.length<=n)->∀ e∈l.foldl (fun m x=>Jat fk x m) m,e.2.length<=n+l.length by
  intro e he;have:=this l [] 0 (fun e he=>by cases he) e he;omega
 intro l;induction l with
 | nil=>intro m n h e he; exact h e he
 | cons x l ih=>
  intro m n h e he;have:=ih (Jat fk x m) (n+1) (Kao h) e he;simp only [aE]; omega
theorem Jqv{fk:ν->κ}{bs:List ν}{i:Nat}{x:ν}(hx:bs[i]? = some x){j:Nat}{L:List ν}(hf:Cx (fk x) (grp fk (bs.take i))=some (j,L)):L.length+1<=bs.length:=by
 have h1:=Kb6 fk (bs.take i) _ (aD (Jcd hf));have h2:=(aH.1 hx).1;simp only [aU] at h1;omega
theorem Jkh{k:κ}{v:List ν}:∀ m:List (κ×List ν),(Fy k v m).length<=m.length+1
 | []=>by simp [Fy]
 | e::es=>by
  have:=Jkh (k:=k) (v:=v) es;unfold Fy;split <;> simp <;> omega
theorem Jvn(fk:ν->κ)(l:List ν):(grp fk l).length<=l.length:=by
 suffices ∀ (l:List ν) (m:List (κ×List ν)),(l.foldl (fun m x=>Jat fk x m) m).length<=m.length+l.length by simpa [grp] using this l []
 intro l;induction l with
 | nil=>intro m; simp
 | cons x l ih=>
  intro m;have h1:=ih (Jat fk x m);have h2:(Jat fk x m).length<=m.length+1:=Jkh m;simp only [List.foldl_cons,aE]; omega
end
section
variable {κ ν:Type} [Key κ] [Enc ν] {P:Program} {Gl:GL} {s:PSt} {d:Bool} {Ls:List (Oper×Gd)} {Q:PSt->Prop}
def Uz(i:Nat):Nat:=499000000+i
def esO(m:List (κ×List ν)):List (PV×List (List PV)):=m.map fun e=>(Enc.pv e.1,e.2.map cellsOf)
def Xt(m:List (κ×List ν))(t:Nat):Option (Nat×Nat):=if 499000000<=t then (m[t - 499000000]?).map fun e=>((e.2.map cellsOf).length,Enc.k ν) else none
theorem Jqo(k:κ):∀ m:List (κ×List ν),Jh2 (Enc.pv k) (esO m)=some ((Cx k m).map fun x=>(x.1,x.2.map cellsOf))
 | []=>rfl
 | e::es=>by
  have ih:=Jqo k es;unfold esO at ih ⊢;simp only [bJ,Jh2,Key.keq,Cx]
  by_cases h:k=e.1
  ·simp [h]
  ·simp only [h,decide_false,if_false,ih,aZ,Option.map_map]
   rfl
def Kc3(P:Program):List (Oper×Gd)->PSt->Option (Nat×PV)
 | (o,.always)::_,s=>match o.op with
  | .lookup t x k false=>match s.ev x,Jci P t with
   | .mp l,some (d,.nil)=>if Gq d (s.ev k)=true then some (l,s.ev k) else none
   | _,_=>none
  | _=>none
 | _,_=>none
theorem Kgd{m:List (κ×List ν)}{k:κ}{tk:Nat->Nat}(l:Nat)(hH:s.H l=some (.mapo (esO m) (Enc.k ν) (Enc.b ν) tk))(h:Kc3 P Ls s=some (l,Enc.pv k))(h2:Ju P Gl d (Ls.drop 1) (s.put (Qk Ls) (match Cx k m with|some (i,L)=>Jg (.own (tk i)) L|none=>.nil)) Q):Ju P Gl d Ls s Q:=by
 refine Bu (e:=.none) ?_ h2;unfold Kc3 at h;split at h
 ·rename_i o rest s;split at h
  ·rename_i t x k' hop;split at h
   ·rename_i l' d hx hm;split at h
    ·rename_i hd;simp only [aO,aK] at h;obtain ⟨rfl,hk⟩:=h;simp only [Ix,hop,Vd,evO,Bn,aP,if_false,ev1,hx,hH,Xa,hm];rw [if_pos hd,hk,Jqo];cases Cx k m <;> rfl
    ·cases h
   ·cases h
  ·cases h
 ·cases h
def Jyy(P:Program):List (Oper×Gd)->PSt->Option (Nat×PV×PV)
 | (o,.always)::_,s=>match o.op with
  | .mapUpdate t m k x=>match s.ev m,Jci P t,Mg (s.ev x) with
   | .mp l,some (d,_),some _=>if Gq d (s.ev k)=true then some (l,s.ev k,s.ev x) else none
   | _,_,_=>none
  | _=>none
 | _,_=>none
def Jd2(k:κ)(m:List (κ×List ν))(t:Nat)(tk:Nat->Nat)(j:Nat):Nat:=if j=Jei (Cx k m) m.length then t else tk j
theorem Jxy(k:κ)(M:List ν)(m:List (κ×List ν)):Jrr (esO m) (Jei (Cx k m) m.length) (Enc.pv k,M.map cellsOf)=esO (Fy k M m):=by
 apply dD;intro j;have hl:(esO m).length=m.length:=by simp [esO]
 have e:(esO (Fy k M m))[j]? = ((Fy k M m)[j]?).map fun e=>((Enc.pv e.1:PV),e.2.map cellsOf):=by simp [esO]
 have e2:(esO m)[j]? = (m[j]?).map fun e=>((Enc.pv e.1:PV),e.2.map cellsOf):=by simp [esO]
 rw [e,Jik];unfold Jrr;cases hf:Cx k m with
 | none=>
  have hx:Jei (none:Option (Nat×List ν)) m.length=m.length:=rfl;rw [hx,if_neg oG,aR,hl]
  by_cases hj:j<m.length
  ·rw [if_pos hj,if_neg oG,e2]
  ·rw [if_neg hj]
   by_cases hje:j=m.length
   ·subst hje; simp
   ·rw [if_neg hje,bO (by simp; omega),bO oG]; rfl
 | some y=>
  obtain ⟨i,L⟩:=y;have hi:i<m.length:=(aH.1 (Jcd hf)).1;have hx:Jei (some (i,L)) m.length=i:=rfl;rw [hx,if_pos oG,cD,hl,if_pos hi]
  by_cases hj:i=j
  ·subst hj; simp
  ·rw [if_neg hj,if_neg (fun e=>hj e.symm),e2]
theorem Jyg{m:List (κ×List ν)}{k:κ}{M:List ν}{tk:Nat->Nat}(t' l:Nat)(hH:s.H l=some (.mapo (esO m) (Enc.k ν) (Enc.b ν) tk))(h:Jyy P Ls s=some (l,Enc.pv k,Jg (.own t') M))(h2:Ju P Gl d (Ls.drop 1) (({ s with H:=upd s.H l (some (.mapo (esO (Fy k M m)) (Enc.k ν) (Enc.b ν) (Jd2 k m t' tk))) }:PSt).put (Qk Ls) .any) Q):Ju P Gl d Ls s Q:=by
 refine Bu (v:=.any) (e:=.obj l (.mapo (esO (Fy k M m)) (Enc.k ν) (Enc.b ν) (Jd2 k m t' tk))) ?_ h2;unfold Jyy at h;split at h
 ·rename_i o rest s;split at h
  ·rename_i t x k' y hop;split at h
   ·rename_i l' d z dv hx hm hdv;split at h
    ·rename_i hd;simp only [aO,aK] at h;obtain ⟨rfl,hk,hy⟩:=h;simp only [Ix,hop,Vd,evO,Bn,if_true,evE,hx,hH,hm,hdv,Je2];rw [hy,hk];rw [hk] at hd;simp only [Jg];rw [if_pos (by simp [hd]),Jqo];simp only [aZ];have e1:=Jxy k M m;cases hf:Cx k m with
     | none=>
      simp only [Option.map_none];have e2:(fun j=>if j=(esO m).length then t' else tk j)=Jd2 k m t' tk:=by
       funext j; simp [Jd2,Jei,hf,esO]
      rw [hf] at e1;simp only [Jei] at e1;rw [show (esO m).length=m.length by simp [esO]] at e2 ⊢;rw [e1,e2]
     | some y=>
      obtain ⟨i,L⟩:=y;simp only [aZ];have e2:(fun j=>if j=i then t' else tk j)=Jd2 k m t' tk:=by
       funext j; simp [Jd2,Jei,hf]
      rw [hf] at e1;simp only [Jei] at e1;rw [e1,e2]
    ·cases h
   ·cases h
  ·cases h
 ·cases h
theorem Ke2{α:Type}[Enc α]{L ys M:List α}{tk:Nat}{T:Nat->Option (Nat×Nat)}(hM:Qd L ys=some M)(hT0:s.T=T)(hT:T tk=some ((L.map cellsOf).length,Enc.k α))(h:Jkb P Ls s=some (tk,false,Enc.k α,Enc.b α,L.map cellsOf,ys.map cellsOf))(h2:Ju P Gl d (Ls.drop 1) (({ s with T:=upd T tk (some ((M.map cellsOf).length,Enc.k α)) }:PSt).put (Qk Ls) (Jg (.own tk) M)) Q):Ju P Gl d Ls s Q:=by
 subst hT0;exact Kdf hM hT h h2
end
theorem Juf{H H':Nat->Option Qg}(hH:∀ l,(H l).isSome=true->(H' l).isSome=true):∀ p,Joz H p=true->Joz H' p=true:=by
 intro p h;cases p <;> simp only [Joz] at h ⊢;exact hH _ h
theorem Jhd{H H':Nat->Option Qg}{T T':Nat->Option (Nat×Nat)}(hH:∀ l,(H l).isSome=true->(H' l).isSome=true)(hT:∀ t,(T t).isSome=true->(T' t).isSome=true):∀ p,Nh H T p=true->Nh H' T' p=true:=by
 intro p h;cases p
 case lst o k b xss=>cases o <;> simp only [Nh] at h ⊢; exact hT _ h
 case fn f caps=>
  simp only [Nh,aG] at h ⊢;exact fun x hx=>Juf hH x (h x hx)
 all_goals (simp only [Nh] at h ⊢ <;> first|exact hT _ h|exact hH _ h)
theorem Jnv{H H':Nat->Option Qg}{T T':Nat->Option (Nat×Nat)}(hH:∀ l,(H l).isSome=true->(H' l).isSome=true)(hT:∀ t,(T t).isSome=true->(T' t).isSome=true):∀ p,Jak H T p=true->Jak H' T' p=true:=by
 intro p h;cases p
 case agg cs=>
  simp only [Jak,aG] at h ⊢;exact fun x hx=>Jhd hH hT x (h x hx)
 all_goals (simp only [Jak] at h ⊢; exact Jhd hH hT _ h)
theorem Juu{H H':Nat->Option Qg}{T T':Nat->Option (Nat×Nat)}(hH:∀ l,(H l).isSome=true->(H' l).isSome=true)(hT:∀ t,(T t).isSome=true->(T' t).isSome=true):∀ p,Fj H T p=true->Fj H' T' p=true:=by
 intro p h;cases p
 case tup cs=>
  simp only [Fj,aG] at h ⊢;exact fun x hx=>Jnv hH hT x (h x hx)
 all_goals (simp only [Fj] at h ⊢; exact Jnv hH hT _ h)
theorem Juz{H H':Nat->Option Qg}{T T':Nat->Option (Nat×Nat)}(hH:∀ l,(H l).isSome=true->(H' l).isSome=true)(hT:∀ t,(T t).isSome=true->(T' t).isSome=true):∀ p,Jdi H T p=true->Jdi H' T' p=true:=by
 intro p h;cases p
 case cells cs=>
  simp only [Jdi,aG] at h ⊢;exact fun x hx=>Jhd hH hT x (h x hx)
 all_goals exact h
def Jdx(j:JS)(n l:Nat)(ob:Qg)(T:Nat->Option (Nat×Nat)):PSt:={ (j.st n) with H:=upd (j.st n).H l (some ob),T:=T }
def JS.dum(j:JS)(l:Nat):JS:=⟨j.tm,(l,.map [])::j.H,[],[]⟩
theorem Jfs{α:Type}(l:Nat)(x:α)(H:List (Nat×α)):Jau ((l,x)::H)=upd (Jau H) l (some x):=by
 funext i;unfold Jau upd;rw [List.lookup_cons]
 by_cases h:i=l
 ·subst h; simp
 ·rw [if_neg h];have:(i == l)=false:=by simpa using h
  rw [this]
theorem Jv2{j:JS}{n l:Nat}{ob ob':Qg}{T':Nat->Option (Nat×Nat)}{s:PSt}(hok:((j.dum l).ok&&(j.H.lookup l).isNone&&j.T.isEmpty&&j.X.isEmpty)=true)(h:j.seen s=j.told n)(hH:s.H l=some ob)(hT:∀ t x,T' t=some x->s.T t=some x)(hw:WkO (Jdx j n l ob' T').H T' ob ob'):Je4 s (Jdx j n l ob' T'):=by
 simp only [aF] at hok;obtain ⟨⟨⟨hok,hl⟩,hjT⟩,hjX⟩:=hok;simp only [JS.seen,JS.told,aK] at h;obtain ⟨h1,h2,h3,h4,h5,h6'⟩:=h;simp only [JS.ok,JS.dum,aF] at hok;obtain ⟨hok,_⟩:=hok;have hn1:n % 100000=s.tm.length:=h1.1.symm;have hn2:n / 100000=s.m:=h1.2.symm;have hHm:∀ i,(Jau ((l,.map [])::j.H) i).isSome=true->((Jdx j n l ob' T').H i).isSome=true:=fun i hi=>by
  rw [Jfs] at hi;show (upd (Jau j.H) l (some ob') i).isSome=true
  by_cases e:i=l
  ·subst e; rw [Kn]; rfl
  ·rw [Ka _ _ _ _ e] at hi ⊢; exact hi
 have hTm:∀ t,((Jau ([]:List (Nat×(Nat×Nat)))) t).isSome=true->(T' t).isSome=true:=fun t ht=>by cases ht
 refine ⟨⟨by simp [Jdx,JS.st,Jbr,hn1],fun i q p hq hp=>?_⟩,fun l' ob1 hob=>?_,hT,fun t x hx=>?_,hn2⟩
 ·have hi:i<n % 100000:=by rw [hn1]; exact (aH.1 hq).1
  simp only [Jdx,JS.st] at hp;rw [Jgy _ _ _ _ hi,aV] at hp;cases hlk:j.tm.lookup i with
  | none=>rw [hlk] at hp; cases hp; exact .any _
  | some p' =>
   rw [hlk] at hp;have hpp:p'=p:=by simpa using hp
   subst hpp;have hm:=Mh hlk;have e:=Sf h3 _ hm;have hg:s.tm.getD i .any=q:=by rw [bD,hq]; rfl
   simp only [hg] at e;have hn:=aG.1 h2 _ hm;have hlive:=Juu hHm hTm _ (aG.1 hok.1 _ hm);simp only [hg] at hn;have:=Xw (p:=p') (q:=q) (H:=(Jdx j n l ob' T').H) (T:=T') hn (by rw [e]; exact hlive)
   rwa [e] at this
 ·have hob:upd (Jau j.H) l (some ob') l'=some ob1:=hob
  by_cases e:l'=l
  ·subst e;rw [Kn] at hob; cases hob;exact ⟨ob,hH,hw⟩
  ·rw [Ka _ _ _ _ e] at hob;have hm:=Mh hob;have e:=Sf h4 _ hm;obtain ⟨ob2,h6,h7⟩:=aC.1 e;refine ⟨ob2,h6, ?_⟩;have hlv:=Juz hHm hTm _ (aG.1 hok.2 _ (dC _ hm));have:=Jnz (p:=ob1) (q:=ob2) (H:=(Jdx j n l ob' T').H) (T:=T') (by rw [h7]; exact hlv)
   rwa [h7] at this
 ·have hx:Jau j.X t=some x:=hx;have:j.X=[]:=by simpa using hjX
  rw [this] at hx; cases hx
section
variable {κ ν:Type} [Key κ] [Enc ν] {s:PSt}
theorem Jxq(m:List (κ×List ν))(i:Nat)(hi:i<(esO m).length):(Xt m (Uz i)).isSome=true:=by
 have hi:i<m.length:=by simpa [esO] using hi
 unfold Xt Uz;rw [if_pos oG,show 499000000+i - 499000000=i by omega,aB hi]; rfl
theorem Jxp{k:κ}{m:List (κ×List ν)}{i:Nat}{L:List ν}(h:Cx k m=some (i,L)):Xt m (Uz i)=some ((L.map cellsOf).length,Enc.k ν):=by
 unfold Xt Uz;rw [if_pos oG,show 499000000+i - 499000000=i by omega,Jcd h]; rfl
theorem Jsh{k:κ}{m:List (κ×List ν)}{M:List ν}{i:Nat}(hi:i=Jei (Cx k m) m.length):Xt (Fy k M m)=upd (Xt m) (Uz i) (some ((M.map cellsOf).length,Enc.k ν)):=by
 funext t;have e0:∀ mm:List (κ×List ν),Xt mm t=if 499000000<=t then (mm[t - 499000000]?).map fun e=>((e.2.map cellsOf).length,Enc.k ν) else none:=fun _=>rfl
 show Xt (Fy k M m) t=if t=Uz i then _ else Xt m t
 rw [e0,e0];unfold Uz
 by_cases ht:499000000<=t
 ·rw [if_pos ht,if_pos ht,Jik,<- hi]
  by_cases e:t=499000000+i
  ·subst e;rw [if_pos rfl,if_pos oG]; rfl
  ·rw [if_neg e,if_neg oG]
 ·rw [if_neg ht,if_neg ht,if_neg oG]
theorem Jld{j:JS}{n:Nat}(l:Nat){m:List (κ×List ν)}(hok:((j.dum l).ok&&(j.H.lookup l).isNone&&j.T.isEmpty&&j.X.isEmpty)=true)(h:j.seen s=j.told n)(hH:s.H l=some (.mapo (esO m) (Enc.k ν) (Enc.b ν) Uz))(hT:s.T=Xt m) :
  Wkr s (Jdx j n l (.mapo (esO m) (Enc.k ν) (Enc.b ν) Uz) (Xt m)):=fun _ _ _ _ _ hi=>
 hi.weak (Jv2 hok h hH (fun t x e=>by rw [hT]; exact e) (.mapo _ _ _ _ fun i hi=>Jxq m i hi))
theorem Kcu{j:JS}{n:Nat}(l:Nat){fk:ν->κ}{x:ν}{m:List (κ×List ν)}{i:Nat}{L:List ν}(hf:Cx (fk x) m=some (i,L))(hok:((j.dum l).ok&&(j.H.lookup l).isNone&&j.T.isEmpty&&j.X.isEmpty)=true)(h:j.seen s=j.told n)(hH:s.H l=some (.mapo (esO (Fy (fk x) (L++[x]) m)) (Enc.k ν) (Enc.b ν) (Jd2 (fk x) m (Uz i) Uz)))(hT:s.T=upd (Xt m) (Uz i) (some (((L++[x]).map cellsOf).length,Enc.k ν))) :
  Wkr s (Jdx j n l (.mapo (esO (Jat fk x m)) (Enc.k ν) (Enc.b ν) Uz) (Xt (Jat fk x m))):=by
 have htk:Jd2 (fk x) m (Uz i) Uz=Uz:=by
  funext q;unfold Jd2;rw [show Jei (Cx (fk x) m) m.length=i by rw [hf]; rfl]
  by_cases e:q=i
  ·rw [if_pos e,e]
  ·rw [if_neg e]
 rw [Jx2 hf];rw [htk] at hH;refine Jld l hok h hH ?_;rw [hT,Jsh (k:=fk x) (M:=L++[x]) (i:=i) (by rw [hf]; rfl)]
theorem Kcl{j:JS}{n:Nat}(l t:Nat){fk:ν->κ}{x:ν}{m:List (κ×List ν)}(ht:t<499000000)(hf:Cx (fk x) m=none)(hok:((j.dum l).ok&&(j.H.lookup l).isNone&&j.T.isEmpty&&j.X.isEmpty)=true)(h:j.seen (Jrl id (Jf6 t (Uz m.length)) s)=j.told n)(hm:m.length<400000000)(hH:s.H l=some (.mapo (esO (Fy (fk x) [x] m)) (Enc.k ν) (Enc.b ν) (Jd2 (fk x) m t Uz)))(hT:s.T=upd (Xt m) t (some (([x].map cellsOf).length,Enc.k ν))) :
  Wkr s (Jdx j n l (.mapo (esO (Jat fk x m)) (Enc.k ν) (Enc.b ν) Uz) (Xt (Jat fk x m))):=by
 rw [Jxs hf];have hD:Uz m.length<1000000000:=by unfold Uz; omega
 have hsw:∀ q,Jf6 t (Uz m.length) (Uz q)=if q=m.length then t else Uz q:=fun q=>by
  unfold Jf6 Uz
  by_cases e:q=m.length
  ·rw [if_neg oG,if_pos oG,if_pos e]
  ·rw [if_neg oG,if_neg oG,if_neg e]
 refine Wkr.trans (s2:=Jrl id (Jf6 t (Uz m.length)) s) (fun Gl S0 w0 a w hi=>?_) (Jld l hok h ?_ ?_)
 ·obtain ⟨g,rfl,hg⟩:=hi;exact ⟨Jbo id (Jf6 t (Uz m.length)) g,rfl,hg.ren (fun _=>rfl) (Jx1 t _) (fun _ _=>rfl) (fun i hi=>by
   unfold Jf6;rw [if_neg oG,if_neg oG])⟩
 ·show (s.H l).map (Jzz id (Jf6 t (Uz m.length)))=_;rw [hH];simp only [aZ,Jzz];congr 1;congr 1;funext q;unfold Jd2;rw [show Jei (Cx (fk x) m) m.length=m.length by rw [hf]; rfl]
  by_cases e:q=m.length
  ·rw [if_pos e,e];unfold Jf6; rw [if_pos rfl]
  ·rw [if_neg e,hsw,if_neg e]
 ·show (fun q=>s.T (Jf6 t (Uz m.length) q))=_;rw [hT,Jsh (k:=fk x) (M:=[x]) (i:=m.length) (by rw [hf]; rfl)];funext q;unfold upd
  by_cases e:q=Uz m.length
  ·subst e;rw [hsw,if_pos rfl,if_pos rfl,if_pos rfl]
  ·rw [if_neg e]
   by_cases e2:q=t
   ·subst e2;have:Jf6 q (Uz m.length) q=Uz m.length:=by unfold Jf6; rw [if_pos rfl]
    rw [this,if_neg (by unfold Uz; omega)];unfold Xt Uz;rw [if_pos oG,if_neg oG,bO oG]; rfl
   ·have:Jf6 t (Uz m.length) q=q:=by unfold Jf6; rw [if_neg e2,if_neg e]
    rw [this,if_neg e2]
theorem Kcv{j:JS}{n:Nat}(l:Nat){m:List (κ×List ν)}{tk:Nat->Nat}(hok:((j.dum l).ok&&(j.H.lookup l).isNone&&j.T.isEmpty&&j.X.isEmpty)=true)(h:j.seen s=j.told n)(hH:s.H l=some (.mapo (esO m) (Enc.k ν) (Enc.b ν) tk)) :
  Wkr s ((⟨j.tm,(l,.map (Ys m))::j.H,[],[]⟩:JS).st n):=fun _ _ _ _ _ hi=>by
 have hmp:(esO m).map (fun e=>(e.1,PV.lst .frozen (Enc.k ν) (Enc.b ν) e.2))=Ys m:=by
  unfold esO Ys;rw [List.map_map]; rfl
 have:=hi.weak (Jv2 (T':=fun _=>none) hok h hH (fun t x e=>by cases e) (.mapf _ _ _ _));rw [hmp] at this;simp only [aF] at hok;have hX:j.X=[]:=by simpa using hok.2
 have e:Jdx j n l (.map (Ys m)) (fun _=>none)=(⟨j.tm,(l,.map (Ys m))::j.H,[],[]⟩:JS).st n:=by
  unfold Jdx JS.st;simp only [Jfs,hX]
  rfl
 rwa [e] at this
theorem Kbm{j:JS}{n:Nat}(l:Nat)(hok:(j.dum l).ok=true)(hX:(j.T.isEmpty&&j.X.isEmpty)=true)(hk:Enc.k ν≠0)(h:(j.dum l).seen s=(j.dum l).told n):Wkr s (Jdx j n l (.mapo (esO ([]:List (κ×List ν))) (Enc.k ν) (Enc.b ν) Uz) (Xt ([]:List (κ×List ν)))):=fun Gl S0 w0 a w hi=>by
 simp only [aF] at hX;have h1:=hi.weak (JS.weaker hok h);obtain ⟨g,rfl,hg⟩:=h1;have hl:((j.dum l).st n).H l=some (.map []):=by
  show Jau ((l,.map [])::j.H) l=_;rw [Jfs,Kn]
 have hgl:g.H l=some (.map []):=by rw [hg.hH]; exact hl
 obtain ⟨o1,o2,o3,arr,clock,b1,b2⟩:=hg.objs l _ hgl;have harr:arr.toList=[]:=b2.nil_left;obtain ⟨h2,_⟩:=hg.setObj (l:=l) (ob':=.mapo (esO ([]:List (κ×List ν))) (Enc.k ν) (Enc.b ν) Uz) (w':=g.w) hgl ⟨rfl,rfl,rfl,rfl,fun _ _=>rfl,rfl⟩ (fun cs e=>by cases e)
  (fun g' hg' hw'=>⟨hk,arr,clock,by rw [hw']; exact b1,by simpa [esO] using harr,fun i e m he _=>by simp [esO] at he⟩)
 have e:({ ((j.dum l).st n) with H:=upd ((j.dum l).st n).H l (some (.mapo (esO ([]:List (κ×List ν))) (Enc.k ν) (Enc.b ν) Uz)) }:PSt)=Jdx j n l (.mapo (esO ([]:List (κ×List ν))) (Enc.k ν) (Enc.b ν) Uz) (Xt ([]:List (κ×List ν))):=by
  have hXe:j.X=[]:=by simpa using hX.2
  unfold Jdx JS.st JS.dum;simp only [Jfs,hXe];congr 1
  ·funext i;unfold upd
   by_cases q:i=l
   ·simp [q]
   ·simp [q]
  ·funext t;unfold Xt Jau;split <;> rfl
 rw [e] at h2;refine ⟨_, ?_,h2⟩
 rfl
omit [Enc ν] in
theorem Kcb{P:Program}{Gl:GL}{c:Code}{Q:Exit->PSt->Prop}(bs:List ν)(fk:ν->κ)(id:Nat)(S:Nat->List (κ×List ν)->PSt)(F:List (κ×List ν)->PSt)(h0:Wkr s (S 0 []))(hstep:∀ i x,bs[i]? = some x->pwp P Gl c (fun e s'=>e=.normal/\Wkr s' (S (i+1) (Jat fk x (grp fk (bs.take i))))) (S i (grp fk (bs.take i))))(hend:∀ m,pwp P Gl c (fun e s'=>e=.exit id/\Wkr s' (F m)) (S bs.length m))(hq:∀ s',Wkr s' (F (grp fk bs))->Q (.exit id) s'):pwp P Gl (.loop c) Q s:=by
 refine Jxe (fun n s=>∃ i,n=bs.length - i/\i<=bs.length/\s=S i (grp fk (bs.take i))) bs.length (s':=S 0 []) ⟨0,rfl,cT _,rfl⟩ h0 ?_;rintro n _ ⟨i,rfl,hi,rfl⟩
 by_cases hil:i<bs.length
 ·have hx:bs[i]? = some bs[i]:=aB hil;refine Si (fun e s' hp=>?_) (hstep i _ hx);obtain ⟨rfl,hw⟩:=hp;refine ⟨bs.length - (i+1),_,by omega,⟨i+1,rfl,hil, ?_⟩,hw⟩;rw [cV,hx,<- Jzb]; rfl
 ·have:i=bs.length:=by omega
  subst this;refine Si (fun e s' hp=>?_) (hend _);obtain ⟨rfl,hw⟩:=hp;rw [bA] at hw;exact hq s' hw
theorem Jv6{L:List ν}{x:ν}{n:Nat}(h:L.length+1<=n)(h2:n * Enc.b ν<=Jx/\n<=Jx):Qd L [x]=some (L++[x]):=by
 unfold Qd;rw [if_pos];refine ⟨bP (bM _ ?_) h2.1, ?_⟩ <;> simp only [aE,aN] <;> omega
end
end PM
