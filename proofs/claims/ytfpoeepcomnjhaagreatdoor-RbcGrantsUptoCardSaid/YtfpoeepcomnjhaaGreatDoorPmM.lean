/-
 THE PURE MACHINE, M: maps of lists that grow in place: a loop that sorts the elements of a list by a key.
-/
import Derived.Test.YtfpoeepcomnjhaaGreatDoorPmQt
namespace PM
open Go Go.RowKit
section
variable {P:Program} {Gl:GL} {s:PSt} {c:Code}
def Kku(I:Nat->PSt->Prop)(n:Nat)(Q:Exit->PSt->Prop):Exit->PSt->Prop
 | .normal,s=>∃ m s',m<n/\I m s'/\Wkr s s'
 | e,s=>Q e s
theorem Kct{Q:Exit->PSt->Prop}(I:Nat->PSt->Prop)(n:Nat){s':PSt}(h0:I n s')(hw:Wkr s s')(hr:∀ n s,I n s->pwp P Gl c (Kku I n Q) s):pwp P Gl (.loop c) Q s:=by
 intro S0 w0 a w hi;have key:∀ n (a:Act) (w:World),(∃ s,I n s/\Inv Gl S0 w0 s a w)->∀ (b:Frame) (k:List Item) (cs:List Frame),
   ∃ e a' w',(∃ s',Q e s'/\Inv Gl S0 w0 s' a' w')/\Arrives P (lone (b.at a (.code c::.inLoop c::k)) cs w) b k cs e a' w':=by
  intro n;induction n using Nat.strongRecOn with
  | _ n ih=>
   rintro a w ⟨s,hI,hi⟩ b k cs;obtain ⟨e,a1,w1,⟨s1,hq,hi1⟩,harr⟩:=hr n s hI S0 w0 a w hi b (.inLoop c::k) cs;cases e with
   | normal=>
    obtain ⟨m,s2,hm,hI2,hw2⟩:=hq;obtain ⟨e2,a2,w2,hq2,harr2⟩:=ih m hm a1 w1 ⟨s2,hI2,hw2 Gl S0 w0 a1 w1 hi1⟩ b k cs;exact ⟨e2,a2,w2,hq2,.of_steps (Steps.trans harr (.one step_inLoop)) harr2⟩
   | exit id=>exact ⟨_,a1,w1,⟨s1,hq,hi1⟩,.pass (x:=.inLoop c) rfl (fun _ _=>.inl sG) harr⟩
   | goto l=>exact ⟨_,a1,w1,⟨s1,hq,hi1⟩,.pass (x:=.inLoop c) rfl (fun _ _=>.inl sG) harr⟩
   | ret=>exact ⟨_,a1,w1,⟨s1,hq,hi1⟩,.pass (x:=.inLoop c) rfl (fun _ _=>.inl sG) harr⟩
   | panic ch=>exact ⟨_,a1,w1,⟨s1,hq,hi1⟩,.pass (x:=.inLoop c) rfl (fun _ _=>.inl sG) harr⟩
   | outgrown=>exact ⟨_,a1,w1,⟨s1,hq,hi1⟩,.pass (x:=.inLoop c) rfl (fun _ _=>.inl sG) harr⟩
 intro b k cs;obtain ⟨e,a',w',hq,harr⟩:=key n a w ⟨s',h0,hw Gl S0 w0 a w hi⟩ b k cs;exact ⟨e,a',w',hq,.of_steps (.one step_loop) harr⟩
end
section
variable {κ ν:Type} [Key κ]
def Cq(k:κ):List (κ×List ν)->Option (Nat×List ν)
 | []=>none
 | e::es=>if k=e.1 then some (0,e.2) else (Cq k es).map fun x=>(x.1+1,x.2)
def Jf7{β:Type}(r:Option (Nat×β))(n:Nat):Nat:=match r with|some (i,_)=>i|none=>n
def Jaq(fk:ν->κ)(x:ν)(m:List (κ×List ν)):List (κ×List ν):=Hv (fk x) (((Cq (fk x) m).map (·.2)).getD []++[x]) m
def grp(fk:ν->κ)(l:List ν):List (κ×List ν):=l.foldl (fun m x=>Jaq fk x m) []
def Jpn[Enc ν](fk:ν->κ)(l:List ν):Option (List (κ×List ν)):=if l.length<=1048576/\Enc.b ν<=1048576 then some (grp fk l) else none
theorem Jw0[Enc ν]{fk:ν->κ}{l:List ν}{m:List (κ×List ν)}(h:Jpn fk l=some m):m=grp fk l/\(l.length * Enc.b ν<=Js/\l.length<=Js)/\l.length<=1048576:=by
 unfold Jpn at h;split at h
 ·rename_i hc;cases h;have:=Nat.mul_le_mul hc.1 hc.2;exact ⟨rfl,⟨by simp only [Js]; omega,by simp only [Js]; omega⟩,hc.1⟩
 ·cases h
theorem Kfc(fk:ν->κ)(l:List ν)(x:ν):grp fk (l++[x])=Jaq fk x (grp fk l):=by simp [grp]
theorem Kc9{fk:ν->κ}{x:ν}{m:List (κ×List ν)}(h:Cq (fk x) m=none):Jaq fk x m=Hv (fk x) [x] m:=by simp [Jaq,h]
theorem Kcf{fk:ν->κ}{x:ν}{m:List (κ×List ν)}{i:Nat}{L:List ν}(h:Cq (fk x) m=some (i,L)):Jaq fk x m=Hv (fk x) (L++[x]) m:=by simp [Jaq,h]
theorem Jd7{k:κ}:∀ {m:List (κ×List ν)} {i:Nat} {L:List ν},Cq k m=some (i,L)->m[i]? = some (k,L)
 | [],_,_,h=>by cases h
 | e::es,i,L,h=>by
  unfold Cq at h
  by_cases hk:k=e.1
  ·rw [if_pos hk] at h; cases h; subst hk; rfl
  ·rw [if_neg hk] at h;obtain ⟨x,hx,he⟩:=aD.1 h;cases he
   simpa using Jd7 (i:=x.1) (L:=x.2) hx
theorem Kc4{β:Type}(r:Option (Nat×β))(n:Nat):Jf7 (r.map fun x=>(x.1+1,x.2)) (n+1)=Jf7 r n+1:=by cases r <;> rfl
theorem Jjw{k:κ}{v:List ν}:∀ {m:List (κ×List ν)} (j:Nat),(Hv k v m)[j]? = if j=Jf7 (Cq k m) m.length then some (k,v) else m[j]?
 | [],j=>by
  cases j <;> simp [Hv,Cq,Jf7]
 | e::es,j=>by
  unfold Hv Cq
  by_cases hk:k=e.1
  ·rw [if_pos hk,if_pos hk];show _=if j=0 then _ else _
   cases j <;> simp
  ·rw [if_neg hk,if_neg hk,aE,Kc4];cases j with
   | zero=>rw [if_neg oG]; rfl
   | succ j=>
    rw [dI,Jjw j,dI]
    by_cases hj:j=Jf7 (Cq k es) es.length
    ·rw [if_pos hj,if_pos oG]
    ·rw [if_neg hj,if_neg oG]
theorem Kdy{fk:ν->κ}{x:ν}{m:List (κ×List ν)}{n:Nat}(h:∀ e∈m,e.2.length<=n):∀ e∈Jaq fk x m,e.2.length<=n+1:=by
 intro e he;obtain ⟨j,hj⟩:=aS he;unfold Jaq at hj;rw [Jjw] at hj
 by_cases hc:j=Jf7 (Cq (fk x) m) m.length
 ·rw [if_pos hc] at hj;cases hj;cases hf:Cq (fk x) m with
  | none=>simp
  | some y=>
   have:=h _ (aC (Jd7 (i:=y.1) (L:=y.2) hf));simp; exact this
 ·rw [if_neg hc] at hj;have:=h e (aC hj); omega
theorem Khv(fk:ν->κ)(l:List ν):∀ e∈grp fk l,e.2.length<=l.length:=by
 suffices ∀ (l:List ν) (m:List (κ×List ν)) (n:Nat),(∀ e∈m,e.2.length<=n)->∀ e∈l.foldl (fun m x=>Jaq fk x m) m,e.2.length<=n+l.length by
  intro e he;have:=this l [] 0 (fun e he=>by cases he) e he;omega
 intro l;induction l with
 | nil=>intro m n h e he; exact h e he
 | cons x l ih=>
  intro m n h e he;have:=ih (Jaq fk x m) (n+1) (Kdy h) e he;simp only [aE]; omega
theorem Jug{fk:ν->κ}{bs:List ν}{i:Nat}{x:ν}(hx:bs[i]? = some x){j:Nat}{L:List ν}(hf:Cq (fk x) (grp fk (bs.take i))=some (j,L)):L.length+1<=bs.length:=by
 have h1:=Khv fk (bs.take i) _ (aC (Jd7 hf));have h2:=(aG.1 hx).1;simp only [aT] at h1;omega
theorem Jmt{k:κ}{v:List ν}:∀ m:List (κ×List ν),(Hv k v m).length<=m.length+1
 | []=>by simp [Hv]
 | e::es=>by
  have:=Jmt (k:=k) (v:=v) es;unfold Hv;split <;> simp <;> omega
theorem Kab(fk:ν->κ)(l:List ν):(grp fk l).length<=l.length:=by
 suffices ∀ (l:List ν) (m:List (κ×List ν)),(l.foldl (fun m x=>Jaq fk x m) m).length<=m.length+l.length by simpa [grp] using this l []
 intro l;induction l with
 | nil=>intro m; simp
 | cons x l ih=>
  intro m;have h1:=ih (Jaq fk x m);have h2:(Jaq fk x m).length<=m.length+1:=Jmt m;simp only [fB,aE]; omega
end
section
variable {κ ν:Type} [Key κ] [Enc ν] {P:Program} {Gl:GL} {s:PSt} {d:Bool} {Ls:List (Oper×Gd)} {Q:PSt->Prop}
def Vr(i:Nat):Nat:=499000000+i
def esO(m:List (κ×List ν)):List (PV×List (List PV)):=m.map fun e=>(Enc.pv e.1,e.2.map cellsOf)
def Jby(m:List (κ×List ν))(t:Nat):Option (Nat×Nat):=if 499000000<=t then (m[t - 499000000]?).map fun e=>((e.2.map cellsOf).length,Enc.k ν) else none
theorem Jtr(k:κ):∀ m:List (κ×List ν),Jjm (Enc.pv k) (esO m)=some ((Cq k m).map fun x=>(x.1,x.2.map cellsOf))
 | []=>rfl
 | e::es=>by
  have ih:=Jtr k es;unfold esO at ih ⊢;simp only [bT,Jjm,Key.keq,Cq]
  by_cases h:k=e.1
  ·simp [h]
  ·simp only [h,decide_false,if_false,ih,bH,Option.map_map]
   rfl
def Ki7(P:Program):List (Oper×Gd)->PSt->Option (Nat×PV)
 | (o,.always)::_,s=>match o.op with
  | .lookup t x k false=>match s.ev x,Jdu P t with
   | .mp l,some (d,.nil)=>if Hx d (s.ev k)=true then some (l,s.ev k) else none
   | _,_=>none
  | _=>none
 | _,_=>none
theorem Kma{m:List (κ×List ν)}{k:κ}{tk:Nat->Nat}(l:Nat)(hH:s.H l=some (.mapo (esO m) (Enc.k ν) (Enc.b ν) tk))(h:Ki7 P Ls s=some (l,Enc.pv k))(h2:Jy P Gl d (Ls.drop 1) (s.put (Uk Ls) (match Cq k m with|some (i,L)=>Ji (.own (tk i)) L|none=>.nil)) Q):Jy P Gl d Ls s Q:=by
 refine Cu (e:=.none) ?_ h2;unfold Ki7 at h;split at h
 ·rename_i o rest s;split at h
  ·rename_i t x k' hop;split at h
   ·rename_i l' d hx hm;split at h
    ·rename_i hd;simp only [aP,aM] at h;obtain ⟨rfl,hk⟩:=h;simp only [Nb,hop,Vx,evO,Cg,aQ,if_false,ev1,hx,hH,Jbg,hm];rw [if_pos hd,hk,Jtr];cases Cq k m <;> rfl
    ·cases h
   ·cases h
  ·cases h
 ·cases h
def Keo(P:Program):List (Oper×Gd)->PSt->Option (Nat×PV×PV)
 | (o,.always)::_,s=>match o.op with
  | .mapUpdate t m k x=>match s.ev m,Jdu P t,Oi (s.ev x) with
   | .mp l,some (d,_),some _=>if Hx d (s.ev k)=true then some (l,s.ev k,s.ev x) else none
   | _,_,_=>none
  | _=>none
 | _,_=>none
def Jfp(k:κ)(m:List (κ×List ν))(t:Nat)(tk:Nat->Nat)(j:Nat):Nat:=if j=Jf7 (Cq k m) m.length then t else tk j
theorem Kca(k:κ)(M:List ν)(m:List (κ×List ν)):Jt1 (esO m) (Jf7 (Cq k m) m.length) (Enc.pv k,M.map cellsOf)=esO (Hv k M m):=by
 apply dB;intro j;have hl:(esO m).length=m.length:=by simp [esO]
 have e:(esO (Hv k M m))[j]? = ((Hv k M m)[j]?).map fun e=>((Enc.pv e.1:PV),e.2.map cellsOf):=by simp [esO]
 have e2:(esO m)[j]? = (m[j]?).map fun e=>((Enc.pv e.1:PV),e.2.map cellsOf):=by simp [esO]
 rw [e,Jjw];unfold Jt1;cases hf:Cq k m with
 | none=>
  have hx:Jf7 (none:Option (Nat×List ν)) m.length=m.length:=rfl;rw [hx,if_neg oG,aU,hl]
  by_cases hj:j<m.length
  ·rw [if_pos hj,if_neg oG,e2]
  ·rw [if_neg hj]
   by_cases hje:j=m.length
   ·subst hje; simp
   ·rw [if_neg hje,bY (by simp; omega),bY oG]; rfl
 | some y=>
  obtain ⟨i,L⟩:=y;have hi:i<m.length:=(aG.1 (Jd7 hf)).1;have hx:Jf7 (some (i,L)) m.length=i:=rfl;rw [hx,if_pos oG,cO,hl,if_pos hi]
  by_cases hj:i=j
  ·subst hj; simp
  ·rw [if_neg hj,if_neg (fun e=>hj e.symm),e2]
theorem Kg2{m:List (κ×List ν)}{k:κ}{M:List ν}{tk:Nat->Nat}(t' l:Nat)(hH:s.H l=some (.mapo (esO m) (Enc.k ν) (Enc.b ν) tk))(h:Keo P Ls s=some (l,Enc.pv k,Ji (.own t') M))(h2:Jy P Gl d (Ls.drop 1) (({ s with H:=upd s.H l (some (.mapo (esO (Hv k M m)) (Enc.k ν) (Enc.b ν) (Jfp k m t' tk))) }:PSt).put (Uk Ls) .any) Q):Jy P Gl d Ls s Q:=by
 refine Cu (v:=.any) (e:=.obj l (.mapo (esO (Hv k M m)) (Enc.k ν) (Enc.b ν) (Jfp k m t' tk))) ?_ h2;unfold Keo at h;split at h
 ·rename_i o rest s;split at h
  ·rename_i t x k' y hop;split at h
   ·rename_i l' d z dv hx hm hdv;split at h
    ·rename_i hd;simp only [aP,aM] at h;obtain ⟨rfl,hk,hy⟩:=h;simp only [Nb,hop,Vx,evO,Cg,if_true,evE,hx,hH,hm,hdv,Jgb];rw [hy,hk];rw [hk] at hd;simp only [Ji];rw [if_pos (by simp [hd]),Jtr];simp only [bH];have e1:=Kca k M m;cases hf:Cq k m with
     | none=>
      simp only [Option.map_none];have e2:(fun j=>if j=(esO m).length then t' else tk j)=Jfp k m t' tk:=by
       funext j; simp [Jfp,Jf7,hf,esO]
      rw [hf] at e1;simp only [Jf7] at e1;rw [show (esO m).length=m.length by simp [esO]] at e2 ⊢;rw [e1,e2]
     | some y=>
      obtain ⟨i,L⟩:=y;simp only [bH];have e2:(fun j=>if j=i then t' else tk j)=Jfp k m t' tk:=by
       funext j; simp [Jfp,Jf7,hf]
      rw [hf] at e1;simp only [Jf7] at e1;rw [e1,e2]
    ·cases h
   ·cases h
  ·cases h
 ·cases h
theorem Kks{α:Type}[Enc α]{L ys M:List α}{tk:Nat}{T:Nat->Option (Nat×Nat)}(hM:Qi L ys=some M)(hT0:s.T=T)(hT:T tk=some ((L.map cellsOf).length,Enc.k α))(h:Jl7 P Ls s=some (tk,false,Enc.k α,Enc.b α,L.map cellsOf,ys.map cellsOf))(h2:Jy P Gl d (Ls.drop 1) (({ s with T:=upd T tk (some ((M.map cellsOf).length,Enc.k α)) }:PSt).put (Uk Ls) (Ji (.own tk) M)) Q):Jy P Gl d Ls s Q:=by
 subst hT0;exact Kjb hM hT h h2
end
theorem Jzo{H H':Nat->Option Ue}(hH:∀ l,(H l).isSome=true->(H' l).isSome=true):∀ p,Jr7 H p=true->Jr7 H' p=true:=by
 intro p h;cases p <;> simp only [Jr7] at h ⊢;exact hH _ h
theorem Jio{H H':Nat->Option Ue}{T T':Nat->Option (Nat×Nat)}(hH:∀ l,(H l).isSome=true->(H' l).isSome=true)(hT:∀ t,(T t).isSome=true->(T' t).isSome=true):∀ p,Pa H T p=true->Pa H' T' p=true:=by
 intro p h;cases p
 case lst o k b xss=>cases o <;> simp only [Pa] at h ⊢; exact hT _ h
 case fn f caps=>
  simp only [Pa,aK] at h ⊢;exact fun x hx=>Jzo hH x (h x hx)
 all_goals (simp only [Pa] at h ⊢ <;> first|exact hT _ h|exact hH _ h)
theorem Jqs{H H':Nat->Option Ue}{T T':Nat->Option (Nat×Nat)}(hH:∀ l,(H l).isSome=true->(H' l).isSome=true)(hT:∀ t,(T t).isSome=true->(T' t).isSome=true):∀ p,Jcf H T p=true->Jcf H' T' p=true:=by
 intro p h;cases p
 case agg cs=>
  simp only [Jcf,aK] at h ⊢;exact fun x hx=>Jio hH hT x (h x hx)
 all_goals (simp only [Jcf] at h ⊢; exact Jio hH hT _ h)
theorem Jzt{H H':Nat->Option Ue}{T T':Nat->Option (Nat×Nat)}(hH:∀ l,(H l).isSome=true->(H' l).isSome=true)(hT:∀ t,(T t).isSome=true->(T' t).isSome=true):∀ p,Hr H T p=true->Hr H' T' p=true:=by
 intro p h;cases p
 case tup cs=>
  simp only [Hr,aK] at h ⊢;exact fun x hx=>Jqs hH hT x (h x hx)
 all_goals (simp only [Hr] at h ⊢; exact Jqs hH hT _ h)
theorem Jyn{H H':Nat->Option Ue}{T T':Nat->Option (Nat×Nat)}(hH:∀ l,(H l).isSome=true->(H' l).isSome=true)(hT:∀ t,(T t).isSome=true->(T' t).isSome=true):∀ p,Jfb H T p=true->Jfb H' T' p=true:=by
 intro p h;cases p
 case cells cs=>
  simp only [Jfb,aK] at h ⊢;exact fun x hx=>Jio hH hT x (h x hx)
 all_goals exact h
def Jfn(j:JS)(n l:Nat)(ob:Ue)(T:Nat->Option (Nat×Nat)):PSt:={ (j.st n) with H:=upd (j.st n).H l (some ob),T:=T }
def JS.dum(j:JS)(l:Nat):JS:=⟨j.tm,(l,.map [])::j.H,[],[]⟩
theorem Jhd{α:Type}(l:Nat)(x:α)(H:List (Nat×α)):Jcm ((l,x)::H)=upd (Jcm H) l (some x):=by
 funext i;unfold Jcm upd;rw [List.lookup_cons]
 by_cases h:i=l
 ·subst h; simp
 ·rw [if_neg h];have:(i == l)=false:=by simpa using h
  rw [this]
theorem Kbt{j:JS}{n l:Nat}{ob ob':Ue}{T':Nat->Option (Nat×Nat)}{s:PSt}(hok:((j.dum l).ok&&(j.H.lookup l).isNone&&j.T.isEmpty&&j.X.isEmpty)=true)(h:j.seen s=j.told n)(hH:s.H l=some ob)(hT:∀ t x,T' t=some x->s.T t=some x)(hw:WkO (Jfn j n l ob' T').H T' ob ob'):Jgv s (Jfn j n l ob' T'):=by
 simp only [aI] at hok;obtain ⟨⟨⟨hok,hl⟩,hjT⟩,hjX⟩:=hok;simp only [JS.seen,JS.told,aM] at h;obtain ⟨h1,h2,h3,h4,h5,h6'⟩:=h;simp only [JS.ok,JS.dum,aI] at hok;obtain ⟨hok,_⟩:=hok;have hn1:n % 100000=s.tm.length:=h1.1.symm;have hn2:n / 100000=s.m:=h1.2.symm;have hHm:∀ i,(Jcm ((l,.map [])::j.H) i).isSome=true->((Jfn j n l ob' T').H i).isSome=true:=fun i hi=>by
  rw [Jhd] at hi;show (upd (Jcm j.H) l (some ob') i).isSome=true
  by_cases e:i=l
  ·subst e; rw [Kr]; rfl
  ·rw [Kc _ _ _ _ e] at hi ⊢; exact hi
 have hTm:∀ t,((Jcm ([]:List (Nat×(Nat×Nat)))) t).isSome=true->(T' t).isSome=true:=fun t ht=>by cases ht
 refine ⟨⟨by simp [Jfn,JS.st,Jdf,hn1],fun i q p hq hp=>?_⟩,fun l' ob1 hob=>?_,hT,fun t x hx=>?_,hn2⟩
 ·have hi:i<n % 100000:=by rw [hn1]; exact (aG.1 hq).1
  simp only [Jfn,JS.st] at hp;rw [Jid _ _ _ _ hi,aW] at hp;cases hlk:j.tm.lookup i with
  | none=>rw [hlk] at hp; cases hp; exact .any _
  | some p' =>
   rw [hlk] at hp;have hpp:p'=p:=by simpa using hp
   subst hpp;have hm:=Ok hlk;have e:=Jad h3 _ hm;have hg:s.tm.getD i .any=q:=by rw [bQ,hq]; rfl
   simp only [hg] at e;have hn:=aK.1 h2 _ hm;have hlive:=Jzt hHm hTm _ (aK.1 hok.1 _ hm);simp only [hg] at hn;have:=Jck (p:=p') (q:=q) (H:=(Jfn j n l ob' T').H) (T:=T') hn (by rw [e]; exact hlive)
   rwa [e] at this
 ·have hob:upd (Jcm j.H) l (some ob') l'=some ob1:=hob
  by_cases e:l'=l
  ·subst e;rw [Kr] at hob; cases hob;exact ⟨ob,hH,hw⟩
  ·rw [Kc _ _ _ _ e] at hob;have hm:=Ok hob;have e:=Jad h4 _ hm;obtain ⟨ob2,h6,h7⟩:=aD.1 e;refine ⟨ob2,h6, ?_⟩;have hlv:=Jyn hHm hTm _ (aK.1 hok.2 _ (eA _ hm));have:=Jqc (p:=ob1) (q:=ob2) (H:=(Jfn j n l ob' T').H) (T:=T') (by rw [h7]; exact hlv)
   rwa [h7] at this
 ·have hx:Jcm j.X t=some x:=hx;have:j.X=[]:=by simpa using hjX
  rw [this] at hx; cases hx
section
variable {κ ν:Type} [Key κ] [Enc ν] {s:PSt}
theorem Kdd(m:List (κ×List ν))(i:Nat)(hi:i<(esO m).length):(Jby m (Vr i)).isSome=true:=by
 have hi:i<m.length:=by simpa [esO] using hi
 unfold Jby Vr;rw [if_pos oG,show 499000000+i - 499000000=i by omega,aB hi]; rfl
theorem Kcj{k:κ}{m:List (κ×List ν)}{i:Nat}{L:List ν}(h:Cq k m=some (i,L)):Jby m (Vr i)=some ((L.map cellsOf).length,Enc.k ν):=by
 unfold Jby Vr;rw [if_pos oG,show 499000000+i - 499000000=i by omega,Jd7 h]; rfl
theorem Jw6{k:κ}{m:List (κ×List ν)}{M:List ν}{i:Nat}(hi:i=Jf7 (Cq k m) m.length):Jby (Hv k M m)=upd (Jby m) (Vr i) (some ((M.map cellsOf).length,Enc.k ν)):=by
 funext t;have e0:∀ mm:List (κ×List ν),Jby mm t=if 499000000<=t then (mm[t - 499000000]?).map fun e=>((e.2.map cellsOf).length,Enc.k ν) else none:=fun _=>rfl
 show Jby (Hv k M m) t=if t=Vr i then _ else Jby m t
 rw [e0,e0];unfold Vr
 by_cases ht:499000000<=t
 ·rw [if_pos ht,if_pos ht,Jjw,<- hi]
  by_cases e:t=499000000+i
  ·subst e;rw [if_pos rfl,if_pos oG]; rfl
  ·rw [if_neg e,if_neg oG]
 ·rw [if_neg ht,if_neg ht,if_neg oG]
theorem Jnq{j:JS}{n:Nat}(l:Nat){m:List (κ×List ν)}(hok:((j.dum l).ok&&(j.H.lookup l).isNone&&j.T.isEmpty&&j.X.isEmpty)=true)(h:j.seen s=j.told n)(hH:s.H l=some (.mapo (esO m) (Enc.k ν) (Enc.b ν) Vr))(hT:s.T=Jby m) :
  Wkr s (Jfn j n l (.mapo (esO m) (Enc.k ν) (Enc.b ν) Vr) (Jby m)):=fun _ _ _ _ _ hi=>
 hi.weak (Kbt hok h hH (fun t x e=>by rw [hT]; exact e) (.mapo _ _ _ _ fun i hi=>Kdd m i hi))
theorem Kh8{j:JS}{n:Nat}(l:Nat){fk:ν->κ}{x:ν}{m:List (κ×List ν)}{i:Nat}{L:List ν}(hf:Cq (fk x) m=some (i,L))(hok:((j.dum l).ok&&(j.H.lookup l).isNone&&j.T.isEmpty&&j.X.isEmpty)=true)(h:j.seen s=j.told n)(hH:s.H l=some (.mapo (esO (Hv (fk x) (L++[x]) m)) (Enc.k ν) (Enc.b ν) (Jfp (fk x) m (Vr i) Vr)))(hT:s.T=upd (Jby m) (Vr i) (some (((L++[x]).map cellsOf).length,Enc.k ν))) :
  Wkr s (Jfn j n l (.mapo (esO (Jaq fk x m)) (Enc.k ν) (Enc.b ν) Vr) (Jby (Jaq fk x m))):=by
 have htk:Jfp (fk x) m (Vr i) Vr=Vr:=by
  funext q;unfold Jfp;rw [show Jf7 (Cq (fk x) m) m.length=i by rw [hf]; rfl]
  by_cases e:q=i
  ·rw [if_pos e,e]
  ·rw [if_neg e]
 rw [Kcf hf];rw [htk] at hH;refine Jnq l hok h hH ?_;rw [hT,Jw6 (k:=fk x) (M:=L++[x]) (i:=i) (by rw [hf]; rfl)]
theorem Kh3{j:JS}{n:Nat}(l t:Nat){fk:ν->κ}{x:ν}{m:List (κ×List ν)}(ht:t<499000000)(hf:Cq (fk x) m=none)(hok:((j.dum l).ok&&(j.H.lookup l).isNone&&j.T.isEmpty&&j.X.isEmpty)=true)(h:j.seen (Jud id (Jhy t (Vr m.length)) s)=j.told n)(hm:m.length<400000000)(hH:s.H l=some (.mapo (esO (Hv (fk x) [x] m)) (Enc.k ν) (Enc.b ν) (Jfp (fk x) m t Vr)))(hT:s.T=upd (Jby m) t (some (([x].map cellsOf).length,Enc.k ν))) :
  Wkr s (Jfn j n l (.mapo (esO (Jaq fk x m)) (Enc.k ν) (Enc.b ν) Vr) (Jby (Jaq fk x m))):=by
 rw [Kc9 hf];have hD:Vr m.length<1000000000:=by unfold Vr; omega
 have hsw:∀ q,Jhy t (Vr m.length) (Vr q)=if q=m.length then t else Vr q:=fun q=>by
  unfold Jhy Vr
  by_cases e:q=m.length
  ·rw [if_neg oG,if_pos oG,if_pos e]
  ·rw [if_neg oG,if_neg oG,if_neg e]
 refine Wkr.trans (s2:=Jud id (Jhy t (Vr m.length)) s) (fun Gl S0 w0 a w hi=>?_) (Jnq l hok h ?_ ?_)
 ·obtain ⟨g,rfl,hg⟩:=hi;exact ⟨Jc8 id (Jhy t (Vr m.length)) g,rfl,hg.ren (fun _=>rfl) (Kb9 t _) (fun _ _=>rfl) (fun i hi=>by
   unfold Jhy;rw [if_neg oG,if_neg oG])⟩
 ·show (s.H l).map (Kf4 id (Jhy t (Vr m.length)))=_;rw [hH];simp only [bH,Kf4];congr 1;congr 1;funext q;unfold Jfp;rw [show Jf7 (Cq (fk x) m) m.length=m.length by rw [hf]; rfl]
  by_cases e:q=m.length
  ·rw [if_pos e,e];unfold Jhy; rw [if_pos rfl]
  ·rw [if_neg e,hsw,if_neg e]
 ·show (fun q=>s.T (Jhy t (Vr m.length) q))=_;rw [hT,Jw6 (k:=fk x) (M:=[x]) (i:=m.length) (by rw [hf]; rfl)];funext q;unfold upd
  by_cases e:q=Vr m.length
  ·subst e;rw [hsw,if_pos rfl,if_pos rfl,if_pos rfl]
  ·rw [if_neg e]
   by_cases e2:q=t
   ·subst e2;have:Jhy q (Vr m.length) q=Vr m.length:=by unfold Jhy; rw [if_pos rfl]
    rw [this,if_neg (by unfold Vr; omega)];unfold Jby Vr;rw [if_pos oG,if_neg oG,bY oG]; rfl
   ·have:Jhy t (Vr m.length) q=q:=by unfold Jhy; rw [if_neg e2,if_neg e]
    rw [this,if_neg e2]
theorem Kib{j:JS}{n:Nat}(l:Nat){m:List (κ×List ν)}{tk:Nat->Nat}(hok:((j.dum l).ok&&(j.H.lookup l).isNone&&j.T.isEmpty&&j.X.isEmpty)=true)(h:j.seen s=j.told n)(hH:s.H l=some (.mapo (esO m) (Enc.k ν) (Enc.b ν) tk)) :
  Wkr s ((⟨j.tm,(l,.map (Zj m))::j.H,[],[]⟩:JS).st n):=fun _ _ _ _ _ hi=>by
 have hmp:(esO m).map (fun e=>(e.1,PV.lst .frozen (Enc.k ν) (Enc.b ν) e.2))=Zj m:=by
  unfold esO Zj;rw [List.map_map]; rfl
 have:=hi.weak (Kbt (T':=fun _=>none) hok h hH (fun t x e=>by cases e) (.mapf _ _ _ _));rw [hmp] at this;simp only [aI] at hok;have hX:j.X=[]:=by simpa using hok.2
 have e:Jfn j n l (.map (Zj m)) (fun _=>none)=(⟨j.tm,(l,.map (Zj m))::j.H,[],[]⟩:JS).st n:=by
  unfold Jfn JS.st;simp only [Jhd,hX]
  rfl
 rwa [e] at this
theorem Kic{j:JS}{n:Nat}(l:Nat)(hok:(j.dum l).ok=true)(hX:(j.T.isEmpty&&j.X.isEmpty)=true)(hk:Enc.k ν≠0)(h:(j.dum l).seen s=(j.dum l).told n):Wkr s (Jfn j n l (.mapo (esO ([]:List (κ×List ν))) (Enc.k ν) (Enc.b ν) Vr) (Jby ([]:List (κ×List ν)))):=fun Gl S0 w0 a w hi=>by
 simp only [aI] at hX;have h1:=hi.weak (JS.weaker hok h);obtain ⟨g,rfl,hg⟩:=h1;have hl:((j.dum l).st n).H l=some (.map []):=by
  show Jcm ((l,.map [])::j.H) l=_;rw [Jhd,Kr]
 have hgl:g.H l=some (.map []):=by rw [hg.hH]; exact hl
 obtain ⟨o1,o2,o3,arr,clock,b1,b2⟩:=hg.objs l _ hgl;have harr:arr.toList=[]:=b2.nil_left;obtain ⟨h2,_⟩:=hg.setObj (l:=l) (ob':=.mapo (esO ([]:List (κ×List ν))) (Enc.k ν) (Enc.b ν) Vr) (w':=g.w) hgl ⟨rfl,rfl,rfl,rfl,fun _ _=>rfl,rfl⟩ (fun cs e=>by cases e)
  (fun g' hg' hw'=>⟨hk,arr,clock,by rw [hw']; exact b1,by simpa [esO] using harr,fun i e m he _=>by simp [esO] at he⟩)
 have e:({ ((j.dum l).st n) with H:=upd ((j.dum l).st n).H l (some (.mapo (esO ([]:List (κ×List ν))) (Enc.k ν) (Enc.b ν) Vr)) }:PSt)=Jfn j n l (.mapo (esO ([]:List (κ×List ν))) (Enc.k ν) (Enc.b ν) Vr) (Jby ([]:List (κ×List ν))):=by
  have hXe:j.X=[]:=by simpa using hX.2
  unfold Jfn JS.st JS.dum;simp only [Jhd,hXe];congr 1
  ·funext i;unfold upd
   by_cases q:i=l
   ·simp [q]
   ·simp [q]
  ·funext t;unfold Jby Jcm;split <;> rfl
 rw [e] at h2;refine ⟨_, ?_,h2⟩
 rfl
omit [Enc ν] in
theorem Kih{P:Program}{Gl:GL}{c:Code}{Q:Exit->PSt->Prop}(bs:List ν)(fk:ν->κ)(id:Nat)(S:Nat->List (κ×List ν)->PSt)(F:List (κ×List ν)->PSt)(h0:Wkr s (S 0 []))(hstep:∀ i x,bs[i]? = some x->pwp P Gl c (fun e s'=>e=.normal/\Wkr s' (S (i+1) (Jaq fk x (grp fk (bs.take i))))) (S i (grp fk (bs.take i))))(hend:∀ m,pwp P Gl c (fun e s'=>e=.exit id/\Wkr s' (F m)) (S bs.length m))(hq:∀ s',Wkr s' (F (grp fk bs))->Q (.exit id) s'):pwp P Gl (.loop c) Q s:=by
 refine Kct (fun n s=>∃ i,n=bs.length - i/\i<=bs.length/\s=S i (grp fk (bs.take i))) bs.length (s':=S 0 []) ⟨0,rfl,dO _,rfl⟩ h0 ?_;rintro n _ ⟨i,rfl,hi,rfl⟩
 by_cases hil:i<bs.length
 ·have hx:bs[i]? = some bs[i]:=aB hil;refine Xs (fun e s' hp=>?_) (hstep i _ hx);obtain ⟨rfl,hw⟩:=hp;refine ⟨bs.length - (i+1),_,by omega,⟨i+1,rfl,hil, ?_⟩,hw⟩;rw [dJ,hx,<- Kfc]; rfl
 ·have:i=bs.length:=by omega
  subst this;refine Xs (fun e s' hp=>?_) (hend _);obtain ⟨rfl,hw⟩:=hp;rw [aR] at hw;exact hq s' hw
theorem Ka6{L:List ν}{x:ν}{n:Nat}(h:L.length+1<=n)(h2:n * Enc.b ν<=Js/\n<=Js):Qi L [x]=some (L++[x]):=by
 unfold Qi;rw [if_pos];refine ⟨bG (bV _ ?_) h2.1, ?_⟩ <;> simp only [aE,aF] <;> omega
end
end PM
