import Derived.Test.YtfpoeepcomnjhaaGreatDoorPmQ
import Derived.Defers
import Derived.Recover
/-
 THE PURE MACHINE, Qh: a call whose body is walked in place: the caller's slots are laid aside.
-/
namespace PM
open Go Go.RowKit
/-- What is left of a region comes to a state of which Q holds. -/
def wl (P:Program) (Gl:Nat→Option (List PV)) (ops:Array Oper) (L:List Oper) (s:PSt) (Q:PSt→Prop):Prop :=
 ∀ (S0:Bs) (w0:World) (a:Act) (w:World) (Q':Exit→Act→World→Prop),(∀ s' a' w',Q s'→Inv Gl S0 w0 s' a' w'→Q' .normal a' w')→Inv Gl S0 w0 s a w→wpList P ops Q' L a w
section
variable {P:Program} {Gl:Nat→Option (List PV)} {s:PSt} {ops:Array Oper} {Q:PSt→Prop}
theorem Jg8 (h:Q s):wl P Gl ops [] s Q:=fun S0 w0 a w Q' hQ hi=>hQ s a w h hi
theorem Jn6 : ∀ (l1:List Oper) {l2:List Oper} {s:PSt},Kp P Gl false (l1.map fun o=>(o,Xj ops o)) s (Up fun s'=>wl P Gl ops l2 s' Q)→wl P Gl ops (l1++l2) s Q
 | [],l2,s,h=>fun S0 w0 a w Q' hQ hi=>let ⟨s2,h1,h2⟩:=h; h2 S0 w0 a w Q' hQ (hi.fade h1)
 | o::l,l2,s,hp=>fun S0 w0 a w Q' hQ hi=>by
  obtain ⟨g,rfl,h⟩:=hi
  simp only [List.cons_append]
  unfold wpList
  simp only [List.map_cons,Kp] at hp
  rcases Og h hp with ⟨h1,h2⟩|⟨h1,h2⟩
  ·rw [if_pos h1]
   exact .inl (Hz h h2 fun s' a' w' hs' hi'=>Jn6 l hs' S0 w0 a' w' Q' hQ hi')
  ·rw [if_neg (by rw [h1]; simp)]
   exact Jn6 l h2 S0 w0 _ _ Q' hQ ⟨g,rfl,h.put _ (Rel.und _)⟩
/-- n operations, and what is behind them. -/
theorem Nf (k n:Nat) (h:Kp P Gl false (((Jad ops).drop k).take n) s (Up fun s'=>wl P Gl ops (ops.toList.drop (k+n)) s' Q)):wl P Gl ops (ops.toList.drop k) s Q:=by
 have e:ops.toList.drop k=(ops.toList.drop k).take n++ops.toList.drop (k+n):=by
  rw [← List.drop_drop,List.take_append_drop]
 rw [e]
 refine Jn6 _ ?_
 simpa [Jad,List.map_drop,List.map_take] using h
theorem Jhg {Q:Exit→PSt→Prop} {id:Nat} (h:wl P Gl ops (ops.toList.drop 0) s (Q .normal)):pwp P Gl (.region id ops false) Q s:=fun S0 w0 a w hi =>
 wp_region_list (h S0 w0 a w _ (fun s' _ _ q i=>⟨s',q,i⟩) hi)
/-- The state in which the body of a call begins. -/
def Gt (n:Nat) (as:List PV) (s:PSt):PSt:={ s with tm:=(as++List.replicate (n - as.length) .any)++s.tm,m:=s.tm.length }
/-- The caller's state behind the body. -/
def Juf (m0:Nat) (dst:Option Nat) (r:PV) (s:PSt):PSt:=({ s with tm:=s.tm.drop (s.tm.length - s.m),m:=m0 }:PSt).put dst r
def Jxg (P:Program) (Gl:Nat→Option (List PV)) (rs:List ResultVar) (m0:Nat) (dst:Option Nat) (K:PSt→Prop):Exit→PSt→Prop
 | .normal,s|.ret,s=>∃ vs r,Ij P Gl s rs=some vs∧Jip vs=some r∧K (Juf m0 dst r s)
 | _,_=>False
theorem Jm8 {rs:List ResultVar} {m0:Nat} {dst:Option Nat} {K:PSt→Prop} {r:PV} (h:(Ij P Gl s rs).bind Jip=some r) (h2:K (Juf m0 dst r s)):Jxg P Gl rs m0 dst K .ret s:=by
 obtain ⟨vs,e1,e2⟩:=Option.bind_eq_some_iff.1 h
 exact ⟨vs,r,e1,e2,h2⟩
/-- All ways of the body end in a state that is such. -/
def Jom (J:JS) (n:Nat) (e:Exit) (s:PSt):Prop:=(e=.normal∨e=.ret)∧Wkr s (J.st n)
theorem Jrf {J:JS} {n:Nat} (hok:J.ok=true) (h:J.seen s=J.told n):Jom J n .ret s:=⟨.inr rfl,.of hok h⟩
theorem Jw9 {s1:PSt} {J:JS} {n:Nat} (hw:Wkr s s1) (hok:J.ok=true) (h:J.seen s1=J.told n):Jom J n .normal s:=⟨.inl rfl,hw.trans (.of hok h)⟩
theorem Jd4 {c:Code} {rs:List ResultVar} {m0:Nat} {dst:Option Nat} {K:PSt→Prop} {α:Type} (o:α) (n:Nat) (J:α→JS) (h1:pwp P Gl c (Jom (J o) n) s) (h2:Jxg P Gl rs m0 dst K .ret ((J o).st n)):pwp P Gl c (Jxg P Gl rs m0 dst K) s:=fun S0 w0 a w hi =>
 Wt (fun e a' w' ⟨s',⟨he,hw⟩,hi'⟩=>by
  have hi2:=hw Gl S0 w0 a' w' hi'
  rcases he with rfl|rfl
  ·exact ⟨_,h2,hi2⟩
  ·exact ⟨_,h2,hi2⟩) (h1 S0 w0 a w hi)
/-- The call at the head: function, and all that it gets. -/
def Jp4 : List Oper→PSt→Option (FuncId×List PV)
 | o::_,s=>match o.guard,Vi o.op with
  | none,some (x,args)=>match s.ev x with
   | .fn f caps=>if caps.all Bh=true then some (f,args.map s.ev++caps) else none
   | _=>none
  | _,_=>none
 | [],_=>none
def Jcw : List Oper→Option Nat
 | o::_=>o.dst
 | []=>none
theorem Jm3 {f n:Nat} {fn:Func} {c:Code} {asx:List PV} {rs:List ResultVar} {L:List Oper} (h:Jp4 L s=some (f,asx)) (hf:P.funcs[f]? = some fn) (hname:(fn.name == "runtime.NumGoroutine")=false) (hb:fn.body=some c) (hn:fn.ntmps=n) (hrs:fn.results.toList=rs)
  (h2:pwp P Gl c (Jxg P Gl rs s.m (Jcw L) fun s'=>wl P Gl ops (L.drop 1) s' Q) (Gt n asx s)):wl P Gl ops L s Q:=by
 subst hn; subst hrs
 cases L with
 | nil=>cases h
 | cons o r =>
  simp only [Jp4] at h
  split at h
  ·rename_i x args hg hco
   split at h
   ·rename_i f' caps e1
    split at h
    rotate_left
    ·cases h
    rename_i hcap
    simp only [Option.some.injEq,Prod.mk.injEq] at h
    obtain ⟨rfl,rfl⟩:=h
    obtain ⟨cl,hop,hcal,hargs⟩:=Wr hco
    intro S0 w0 a w Q' hQ hi
    obtain ⟨g,rfl,hI⟩:=hi
    have hx:=hI.ev x
    rw [e1] at hx
    simp only [Rel,Qb,Kx] at hx
    obtain ⟨arr,hfv,hcaps⟩:=hx
    have hall:Kv (Rel g) (args.map s.ev++caps) ((cl.args.map a.eval++arr).toList):=by
     rw [Array.toList_append,Array.toList_map,hargs]
     refine Kv.append ⟨by simp,fun i p v hp hv=>?_⟩ ⟨hcaps.1,fun i p v hp hv=>?_⟩
     ·rw [List.getElem?_map] at hp hv
      cases hi:args[i]? with
      | none=>rw [hi] at hp; cases hp
      | some y=>rw [hi] at hp hv; cases hp; cases hv; exact hI.ev y
     ·have hpv:=hcaps.2 i p v hp hv
      have h2:=List.all_eq_true.1 hcap p (List.mem_of_getElem? hp)
      cases p <;> simp only [Bh] at h2 <;> try cases h2
      all_goals exact hpv
    have hrun:(execOp a.eval o).run P g.w=.ok (.enter f' (cl.args.map a.eval++arr)) g.w:=by
     have hne:fn.name ≠ "runtime.NumGoroutine" := by simpa using hname
     have hbody:fn.body≠none:=fun e=>by rw [e] at hb; cases hb
     simp [execOp,hop,resolve,hcal,hfv,Deferred.ofValue,invoke,callFunc,run_program,hf,hne,hbody]
    generalize hVS:cl.args.map a.eval++arr=VS at hall hrun
    generalize hAS:args.map s.ev++caps=AS at hall h2
    unfold wpList
    have hw:Region.wanted o (yielded ops a.tmps)=true:=by unfold Region.wanted; rw [hg]
    rw [if_pos hw]
    left
    unfold Oper.wp
    rw [hrun]
    refine calls_of_wp hf hb ?_
    have hlen:=hI.len
    have hsz:AS.length=VS.size:=by rw [hall.1]; simp
    let S1:Bs:={ S0 with St:=a.tmps.toList++S0.St,D:=[] }
    have hinit:Inv Gl S1 w0 (Gt fn.ntmps AS s) { tmps:=VS++Array.replicate (fn.ntmps - VS.size) undef,defers:=[] } g.w:=by
     refine ⟨g,rfl,{ hI with defers:=rfl,len:=⟨?_, ?_⟩,tm:=fun i p v hp hv=>?_ }⟩
     ·simp only [Gt,List.length_append,List.length_replicate,Array.size_append,Array.size_replicate,hsz]
     ·simp only [Gt]
      show (a.tmps.toList++S0.St).length=_
      rw [List.length_append,Array.length_toList]; omega
     ·simp only [Gt] at hp
      have hl2:(AS++List.replicate (fn.ntmps - AS.length) PV.any).length=(VS++Array.replicate (fn.ntmps - VS.size) undef).toList.length:=by
       simp [hsz]
      rw [List.getElem?_append] at hp
      have hv:((VS++Array.replicate (fn.ntmps - VS.size) undef).toList++(a.tmps.toList++S0.St))[i]? = some v:=hv
      rw [List.getElem?_append,← hl2] at hv
      by_cases hi:i<(AS++List.replicate (fn.ntmps - AS.length) PV.any).length
      ·rw [if_pos hi] at hp hv
       rw [List.getElem?_append] at hp
       by_cases hi2:i<AS.length
       ·rw [if_pos hi2] at hp
        rw [Array.toList_append,List.getElem?_append_left (by rw [← hall.1]; exact hi2)] at hv
        exact hall.2 i p v hp hv
       ·rw [if_neg hi2,List.getElem?_replicate] at hp
        split at hp
        ·cases hp; trivial
        ·cases hp
      ·rw [if_neg hi] at hp hv
       exact hI.tm _ p v hp hv
    refine Wt (fun e a' w' hq=>?_) (h2 S1 w0 _ g.w hinit)
    obtain ⟨s',hq,g',rfl,hg'⟩:=hq
    have fin:(∃ vs r',Ij P Gl s' fn.results.toList=some vs∧Jip vs=some r'∧wl P Gl ops r (Juf s.m o.dst r' s') Q)→a'.defers=[]∧∃ v,(results fn a'.tmps).run P g'.w=.ok v g'.w∧wpList P ops Q' r (a.put o.dst v) g'.w:=by
     rintro ⟨vs,r',k1,k2,k3⟩
     refine ⟨hg'.defers, ?_⟩
     obtain ⟨us,r1,r2⟩:=Gg hg' _ _ k1
     refine ⟨if h:us.toArray.size=1 then us.toArray[0] else .tuple us.toArray, ?_,k3 S0 w0 _ _ Q' hQ ⟨g',rfl, ?_⟩⟩
     ·rw [Bw,Array.mapM_eq_mapM_toList]
      simp only [Sem.run_bind,Sem.run_map,r1,Result.andThen_ok,Sem.run_pure]
     ·have hl':=hg'.len
      have hm:s'.m=s.tm.length:=by
       have:=hl'.2
       have e:(a.tmps.toList++S0.St).length=s'.m:=this
       rw [List.length_append,Array.length_toList] at e; omega
      have hbase:Kw Gl S0 w0 { s' with tm:=s'.tm.drop (s'.tm.length - s'.m),m:=s.m } a g':=by
       refine { hg' with defers:=hI.defers,len:=⟨?_,hlen.2⟩,tm:=fun i p v hp hv=>?_ }
       ·show (s'.tm.drop (s'.tm.length - s'.m)).length=a.tmps.size+s.m
        rw [List.length_drop]; omega
       ·have hp:(s'.tm.drop (s'.tm.length - s'.m))[i]? = some p:=hp
        rw [List.getElem?_drop] at hp
        refine hg'.tm _ p v hp ?_
        show (a'.tmps.toList++(a.tmps.toList++S0.St))[_]? = some v
        have e:s'.tm.length - s'.m=a'.tmps.toList.length:=by rw [Array.length_toList]; omega
        rw [e,List.getElem?_append_right (by omega),Nat.add_sub_cancel_left]
        exact hv
      exact hbase.put _ (Jab k2 r2)
    cases e with
    | normal=>exact fin hq
    | ret=>exact fin hq
    | exit id=>exact hq.elim
    | goto l=>exact hq.elim
    | panic ch=>exact hq.elim
    | outgrown=>exact hq.elim
   ·cases h
  ·cases h
end
end PM
/-
 THE PURE MACHINE, Qi: labels and tokens get other names.
-/
namespace PM
open Go Go.RowKit
def Jyl (ρ:Nat→Nat):PV→PV
 | .ref l o=>.ref (ρ l) o
 | p=>p
def Jh5 (ρ τ:Nat→Nat):PV→PV
 | .lst (.own t) k b xss=>.lst (.own (τ t)) k b xss
 | .ref l o=>.ref (ρ l) o
 | .mp l=>.mp (ρ l)
 | .sl l o n k b=>.sl (ρ l) o n k b
 | .fn f caps=>.fn f (caps.map (Jyl ρ))
 | .ex t k b N o n=>.ex (τ t) k b N o n
 | .eref t k N j o=>.eref (τ t) k N j o
 | p=>p
def Juy (ρ τ:Nat→Nat):PV→PV
 | .agg cs=>.agg (cs.map (Jh5 ρ τ))
 | p=>Jh5 ρ τ p
def Jw4 (ρ τ:Nat→Nat):PV→PV
 | .tup vs=>.tup (vs.map (Juy ρ τ))
 | p=>Juy ρ τ p
def Jus (ρ τ:Nat→Nat):Qv→Qv
 | .cells cs=>.cells (cs.map (Jh5 ρ τ))
 | .map es=>.map es
 | .iter b p=>.iter b p
 | .mapo es k b tk=>.mapo es k b fun i=>τ (tk i)
def Jow (ρ τ:Nat→Nat) (s:PSt):PSt:=⟨s.tm.map (Jw4 ρ τ),fun l=>(s.H (ρ l)).map (Jus ρ τ),fun t=>s.T (τ t),fun t=>s.X (τ t),s.m⟩
def Ss (ρ τ:Nat→Nat) (g:GG):GG:=⟨g.S,g.w,fun l=>g.φ (ρ l),fun t=>g.hd (τ t),fun l=>(g.H (ρ l)).map (Jus ρ τ),fun t=>g.T (τ t)⟩
section
variable {ρ τ:Nat→Nat} {g:GG} {p:PV} {v:Value}
theorem Jv5 (hρ:∀ l,ρ (ρ l)=l) (h:Px g p v):Px (Ss ρ τ g) (Jyl ρ p) v:=by
 cases p
 case ref l o =>
  simp only [Px,Jyl,Ss,hρ,Option.isSome_map] at h ⊢
  exact h
 all_goals exact h
theorem Jgy (hρ:∀ l,ρ (ρ l)=l) (hτ:∀ l,τ (τ l)=l) (h:Kx g p v):Kx (Ss ρ τ g) (Jh5 ρ τ p) v:=by
 cases p
 case lst o k b xss =>
  cases o
  case own t =>
   simp only [Kx,Jh5,Ss,hτ] at h ⊢
   exact h
  all_goals exact h
 case ref l o =>
  simp only [Kx,Jh5,Ss,hρ,Option.isSome_map] at h ⊢
  exact h
 case mp l =>
  simp only [Kx,Jh5,Ss,hρ,Option.isSome_map] at h ⊢
  exact h
 case sl l o n k b =>
  simp only [Kx,Jh5,Ss,hρ] at h ⊢
  obtain ⟨h1,cs,h2,h3⟩:=h
  exact ⟨h1,cs.map (Jh5 ρ τ),by rw [h2]; rfl,by simpa using h3⟩
 case fn f caps =>
  simp only [Kx,Jh5] at h ⊢
  obtain ⟨arr,h1,h2⟩:=h
  refine ⟨arr,h1,by simpa using h2.1,fun i p v hp hv=>?_⟩
  rw [List.getElem?_map] at hp
  obtain ⟨q,hq,rfl⟩:=Option.map_eq_some_iff.1 hp
  exact Jv5 hρ (h2.2 i q v hq hv)
 case ex t k b N o n =>
  simp only [Kx,Jh5,Ss,hτ] at h ⊢
  exact h
 case eref t k N j o =>
  simp only [Kx,Jh5,Ss,hτ] at h ⊢
  exact h
 all_goals exact h
theorem Jit (hρ:∀ l,ρ (ρ l)=l) (hτ:∀ l,τ (τ l)=l) (h:Wk g p v):Wk (Ss ρ τ g) (Jh5 ρ τ p) v:=⟨Jgy hρ hτ h.1,h.2⟩
theorem Jk4 (hρ:∀ l,ρ (ρ l)=l) (hτ:∀ l,τ (τ l)=l) (h:Qb g p v):Qb (Ss ρ τ g) (Juy ρ τ p) v:=by
 cases p
 case agg cs =>
  simp only [Qb,Juy] at h ⊢
  obtain ⟨arr,h1,h2⟩:=h
  refine ⟨arr,h1,by simpa using h2.1,fun i p v hp hv=>?_⟩
  rw [List.getElem?_map] at hp
  obtain ⟨q,hq,rfl⟩:=Option.map_eq_some_iff.1 hp
  exact Jit hρ hτ (h2.2 i q v hq hv)
 case lst o k b xss =>
  simp only [Qb] at h
  exact (Jgy hρ hτ h).relA'
 all_goals
  simp only [Qb,Juy] at h ⊢
  exact Jgy hρ hτ h
theorem Jwg (hρ:∀ l,ρ (ρ l)=l) (hτ:∀ l,τ (τ l)=l) (h:Rel g p v):Rel (Ss ρ τ g) (Jw4 ρ τ p) v:=by
 cases p
 case tup cs =>
  simp only [Rel,Jw4] at h ⊢
  obtain ⟨arr,h1,h2⟩:=h
  refine ⟨arr,h1,by simpa using h2.1,fun i p v hp hv=>?_⟩
  rw [List.getElem?_map] at hp
  obtain ⟨q,hq,rfl⟩:=Option.map_eq_some_iff.1 hp
  exact Jk4 hρ hτ (h2.2 i q v hq hv)
 case lst o k b xss =>
  simp only [Rel] at h
  exact (Jk4 hρ hτ h).rel
 all_goals
  simp only [Rel,Jw4] at h ⊢
  exact Jk4 hρ hτ h
theorem Jtd (hρ:∀ l,ρ (ρ l)=l) (hτ:∀ l,τ (τ l)=l) {B:Nat} {ob:Qv} (h:Rt g B ob):Rt (Ss ρ τ g) B (Jus ρ τ ob):=by
 cases ob with
 | cells cs =>
  obtain ⟨vs,h1,h2,h3⟩:=h
  refine ⟨vs,⟨by simpa using h1.1,fun i p v hp hv=>?_⟩,h2,h3⟩
  rw [List.getElem?_map] at hp
  obtain ⟨q,hq,rfl⟩:=Option.map_eq_some_iff.1 hp
  exact Jit hρ hτ (h1.2 i q v hq hv)
 | map es=>exact h
 | iter b p=>exact h
 | mapo es k b tk =>
  obtain ⟨h0,arr,clock,h1,h2,h3⟩:=h
  exact ⟨h0,arr,clock,h1,h2,fun i e m he hm=>⟨(h3 i e m he hm).1,Jgy hρ hτ (h3 i e m he hm).2⟩⟩
end
section
variable {Gl:Nat→Option (List PV)} {S0:Bs} {w0:World} {s:PSt} {a:Act} {g:GG} {ρ τ:Nat→Nat}
theorem Kw.ren (h:Kw Gl S0 w0 s a g) (hρ:∀ l,ρ (ρ l)=l) (hτ:∀ l,τ (τ l)=l) (fρ:∀ l,1000000≤l→ρ l=l) (fτ:∀ t,1000000000≤t→τ t=t):Kw Gl S0 w0 (Jow ρ τ s) a (Ss ρ τ g):=by
 have iρ:∀ {l l'},ρ l=ρ l'→l=l':=fun {l l'} e=>by rw [← hρ l,← hρ l',e]
 have iτ:∀ {l l'},τ l=τ l'→l=l':=fun {l l'} e=>by rw [← hτ l,← hτ l',e]
 have hs:∀ {l},((Ss ρ τ g).H l).isSome=true→(g.H (ρ l)).isSome=true:=fun {l} e=>by simpa [Ss] using e
 refine { hH:=by simp only [Ss,Jow,h.hH],hT:=by simp only [Ss,Jow,h.hT],defers:=h.defers,len:=⟨by simpa [Jow] using h.len.1,h.len.2⟩,tm:=fun i p v hp hv=>?_,sub:=h.sub,new:=h.new,lt:=h.lt,below:=h.below,objs:=fun l ob hob=>?_,inj:=fun l l' h1 h2 e=>iρ (h.inj _ _ (hs h1) (hs h2) e),owns:=fun t n k ht=>h.owns (τ t) n k ht,ownsEx:=fun t t' B h1 h2=>iτ (h.ownsEx (τ t) (τ t') B h1 h2),ownsObj:=fun t B l h1 h2=>h.ownsObj (τ t) B (ρ l) h1 (hs h2),glob:=h.glob,exs:=fun t k b xss hx=>?_,exsEx:=fun t t' B h1 h2=>iτ (h.exsEx (τ t) (τ t') B h1 h2),fix:=fun l B hF=>?_,fixT:=fun t v n hF=>?_ }
 ·simp only [Jow,List.getElem?_map] at hp
  obtain ⟨q,hq,rfl⟩:=Option.map_eq_some_iff.1 hp
  exact Jwg hρ hτ (h.tm i q v hq hv)
 ·simp only [Ss] at hob
  obtain ⟨ob0,h1,rfl⟩:=Option.map_eq_some_iff.1 hob
  obtain ⟨o1,o2,o3,o4⟩:=h.objs (ρ l) ob0 h1
  exact ⟨o1,o2,o3,Jtd hρ hτ o4⟩
 ·obtain ⟨q1,q2,q3,q4,q5,q6⟩:=h.exs (τ t) k b xss hx
  refine ⟨q1,q2,q3,q4,q5,q6.imp id ?_⟩
  rintro ⟨B,cap,e,hc,f1,f2,f3,f4,f5,f6,f7,f8⟩
  exact ⟨B,cap,e,hc,f1,f2,f3,f4,f5,f6,fun l hl=>f7 (ρ l) (hs hl),fun t' ht'=>iτ (f8 (τ t') ht')⟩
 ·obtain ⟨k1,k2⟩:=h.fix l B hF
  refine ⟨k1,fun e=>?_⟩
  have e':=hs e
  rw [fρ l k1] at e'
  show g.φ (ρ l)=B
  rw [fρ l k1]; exact k2 e'
 ·obtain ⟨k1,k2⟩:=h.fixT t v n hF
  refine ⟨k1,fun n0 e=>?_⟩
  have e':g.T (τ t)=some (n0,0):=e
  show n≤n0∧(n0=n→g.hd (τ t)=v)∧∀ B,HB (g.hd (τ t)) B→HB v B∨w0.heap.size≤B
  rw [fτ t k1] at e' ⊢
  exact k2 n0 e'
/-- The first K names and those from c * K on change places. -/
def swp (K c i:Nat):Nat:=match decide (i<K) with
 | true=>i+c * K
 | false=>match decide (c * K≤i),decide (i<c * K+K) with
  | true,true=>i - c * K
  | _,_=>i
theorem Jss {K c:Nat} (hc:1≤c) (i:Nat):swp K c (swp K c i)=i:=by
 have hck:K≤c * K:=Nat.le_mul_of_pos_left K hc
 unfold swp
 by_cases h1:i<K
 ·simp only [h1,decide_true]
  rw [decide_eq_false (by omega),decide_eq_true (show c * K≤i+c * K by omega),decide_eq_true (show i+c * K<c * K+K by omega)]
  simp
 ·simp only [h1,decide_false]
  by_cases h2:c * K≤i
  ·by_cases h3:i<c * K+K
   ·simp only [h2,h3,decide_true]
    rw [decide_eq_true (show i - c * K<K by omega)]
    simp only; omega
   ·simp [h2,h3,h1]
  ·simp [h2,h1]
theorem Jsx {K c b:Nat} (h:c * K+K≤b) (hc:1≤c) (i:Nat) (hi:b≤i):swp K c i=i:=by
 unfold swp
 rw [decide_eq_false (by omega),decide_eq_false (show ¬ i<c * K+K by omega)]
 cases decide (c * K≤i) <;> rfl
/-- The labels below 1000 and the tokens below 1000000 get other names. -/
theorem Jag (c:Nat) (hc:(decide (1≤c)&&decide (c≤999))=true):Wkr s (Jow (swp 1000 c) (swp 1000000 c) s):=fun Gl S0 w0 a w hi=>by
 simp only [Bool.and_eq_true,decide_eq_true_eq] at hc
 obtain ⟨g,rfl,hg⟩:=hi
 exact ⟨Ss (swp 1000 c) (swp 1000000 c) g,rfl,hg.ren (Jss hc.1) (Jss hc.1) (Jsx (K:=1000) (b:=1000000) (by omega) hc.1) (Jsx (K:=1000000) (b:=1000000000) (by omega) hc.1)⟩
theorem Jyc {P:Program} {ops:Array Oper} {L:List Oper} {Q:PSt→Prop} {s':PSt} (hw:Wkr s s') (h:wl P Gl ops L s' Q):wl P Gl ops L s Q:=fun S0 w0 a w Q' hQ hi=>h S0 w0 a w Q' hQ (hw Gl S0 w0 a w hi)
/-- Other names; only what J says is kept. -/
theorem Ci {P:Program} {ops:Array Oper} {L:List Oper} {Q:PSt→Prop} (c:Nat) (J:JS) (n:Nat) (hc:(decide (1≤c)&&decide (c≤999))=true) (hok:J.ok=true) (h:J.seen (Jow (swp 1000 c) (swp 1000000 c) s)=J.told n) (h2:wl P Gl ops L (J.st n) Q):wl P Gl ops L s Q :=
 Jyc ((Jag c hc).trans (.of hok h)) h2
end
end PM
/-
 THE PURE MACHINE, Qj: calls that only read lists that nobody else holds, and return numbers: the lists stay as they are.
-/
namespace PM
open Go Go.RowKit
section
variable {P:Program} {Gl:Nat→Option (List PV)} {S0:Bs} {w0:World} {s:PSt} {a:Act} {g:GG}
def Jjr (ts:List Nat):List (Oper×Gd)→PSt→Option (FuncId×List PV×List (Nat×Nat))
 | (o,.always)::_,s=>match Vi o.op with
  | some (x,args)=>match s.ev x with
   | .fn f caps=>if caps.all Bh=true then (Xy ts s (args.map s.ev++caps)).map fun q=>(f,q) else none
   | _=>none
  | none=>none
 | _,_=>none
/-- A call that reads lists that nobody else holds (those of the tokens ts). -/
theorem Co {Ls:List (Oper×Gd)} {Q:PSt→Prop} {f:FuncId} {as:List PV} {r:PV} (ts:List Nat) (hc:Kj P Gl f as r) (h0:(Jjr ts Ls s).map (fun x=>(x.1,Im as x.2.1,x.2.2.map (·.1)))=(Jjr ts Ls s).map (fun x=>(f,as,x.2.2.map (·.2)))) (hs0:(Jjr ts Ls s).isSome=true) (hs:Jtp r=true)
  (h2:Kp P Gl false (Ls.drop 1) (s.put (Uq Ls) r) Q):Kp P Gl false Ls s Q:=by
 obtain ⟨y0,h⟩:=Option.isSome_iff_exists.1 hs0
 rw [h] at h0
 obtain ⟨f0,qs,eqs⟩:=y0
 simp only [Option.map_some,Option.some.injEq,Prod.mk.injEq] at h0
 obtain ⟨rfl,hdc,heq⟩:=h0
 unfold Jjr at h
 split at h
 ·rename_i s0 o rest
  split at h
  ·rename_i x args hco
   split at h
   ·rename_i f' caps e1
    split at h
    ·rename_i hcapok
     obtain ⟨qs',e3,h'⟩:=Option.map_eq_some_iff.1 h
     simp only [Prod.mk.injEq] at h'
     obtain ⟨rfl,h'⟩:=h'
     subst h'
     obtain ⟨c,hop,hcal,hargs⟩:=Wr hco
     obtain ⟨⟨fn,hfn1,hfn2,hfn3⟩,hcall⟩:=hc
     refine Np (n:=s) (v:=r) (by rw [hop]; rfl) ?_ h2
     intro S0 w0 a g K Q' hg hK
     have hx:=hg.ev x
     rw [e1] at hx
     simp only [Rel,Qb,Kx] at hx
     obtain ⟨arr,hfv,hcaps⟩:=hx
     have hcapsR:Kv (Rel g) caps arr.toList:=⟨hcaps.1,fun i p v hp hv=>by
      have h1:=hcaps.2 i p v hp hv
      have h2:=List.all_eq_true.1 hcapok p (List.mem_of_getElem? hp)
      cases p <;> simp only [Bh] at h2 <;> try cases h2
      all_goals exact h1⟩
     have hall:Kv (Rel g) (args.map s.ev++caps) (args.map a.eval++arr.toList):=Kv.append ⟨by simp,fun i p v hp hv=>by
      rw [List.getElem?_map] at hp hv
      cases hi:args[i]? with
      | none=>rw [hi] at hp; cases hp
      | some y=>rw [hi] at hp hv; cases hp; cases hv; exact hg.ev y⟩ hcapsR
     obtain ⟨S1,b1,b2,b3,b4⟩:=hg.borrow ts
     have hD:=Gh (ps:=as) (Jg0 hg b1 b4 hall e3 heq)
     rw [hdc] at hD
     have hrun:(execOp a.eval o).run P g.w=.ok (.enter f' ((args.map a.eval++arr.toList).toArray)) g.w:=by
      have hname:fn.name ≠ "runtime.NumGoroutine" := by simpa using hfn2
      have hbody:fn.body≠none:=fun e=>by rw [e] at hfn3; cases hfn3
      have hca:c.args.map a.eval++arr=(args.map a.eval++arr.toList).toArray:=Array.toList_inj.1 (by simp [hargs])
      simp [execOp,hop,resolve,hcal,hfv,Deferred.ofValue,invoke,callFunc,run_program,hfn1,hname,hbody]
      simpa using hca
     unfold Oper.wp
     rw [hrun]
     refine (hcall S1 g.w _ b2 b3 (by simpa using hD)).mono fun e w' he=>?_
     obtain ⟨v,g',rfl,rfl,ha⟩:=he
     obtain ⟨k1,k2⟩:=hg.grow' ha.below
     exact hK v { g with w:=g'.w } k1 k2 (Jlj hs ha.rel)
    ·cases h
   ·cases h
  ·cases h
 ·cases h
end
end PM
/-
 THE PURE MACHINE, Qk: a list that is written out, and that nobody else holds.
-/
namespace PM
open Go Go.RowKit
section
variable {α:Type} [Enc α] {P:Program} {Gl:Nat→Option (List PV)} {s:PSt} {Q:PSt→Prop} {Ls:List (Oper×Gd)}
end
end PM
/-
 THE PURE MACHINE, Ql: the end of a list that may grow: a slice that takes over the room (a new token), and tokens that change names.
-/
namespace PM
open Go Go.RowKit
section
variable {P:Program} {Gl:Nat→Option (List PV)} {S0:Bs} {w0:World} {s:PSt} {a:Act} {g:GG}
end
section
variable {α:Type} [Enc α] {P:Program} {Gl:Nat→Option (List PV)} {s:PSt} {Ls:List (Oper×Gd)} {Q:PSt→Prop}
end
/-- Two tokens change names. -/
def Jeh (t d i:Nat):Nat:=if i=t then d else if i=d then t else i
theorem Js3 (t d i:Nat):Jeh t d (Jeh t d i)=i:=by
 unfold Jeh
 by_cases h1:i=t
 ·subst h1
  by_cases h2:d=i
  ·simp [h2]
  ·simp [h2]
 ·by_cases h2:i=d
  ·subst h2; simp [h1]
  ·simp [h1,h2]
end PM
/-
 THE PURE MACHINE, Qm: a body that defers one call of a closure, which is walked in place at each return.
-/
namespace PM
open Go Go.RowKit
/-- How deep a recursive function may call itself. -/
def Jdu : Nat:=4194304
section
variable {P:Program} {Gl:Nat→Option (List PV)} {s:PSt}
/-- Behind the deferred closure: what the caller returns. -/
def Jfg (P:Program) (Gl:Nat→Option (List PV)) (rs:List ResultVar) (r:PV):Exit→PSt→Prop
 | .normal,s|.ret,s=>Ea P Gl rs r { s with tm:=s.tm.drop (s.tm.length - s.m),m:=1 }
 | _,_=>False
/-- The body is at its end, the closure is called. -/
def Jxt (P:Program) (Gl:Nat→Option (List PV)) (rs:List ResultVar) (r:PV) (s:PSt):Prop :=
 ∃ f caps fn c,s.tm.getLast? = some (.fn f caps)∧s.m=1∧caps.all Bh=true∧P.funcs[f]? = some fn∧(fn.name == "runtime.NumGoroutine")=false∧fn.body=some c∧fn.results.toList=[]∧pwp P Gl c (Jfg P Gl rs r) (Gt fn.ntmps caps s)
def Jx0 (P:Program) (Gl:Nat→Option (List PV)) (rs:List ResultVar) (r:PV):Exit→PSt→Prop
 | .normal,s|.ret,s=>Jxt P Gl rs r s
 | _,_=>False
/-- Code of a body that may defer a closure: Q of the ends without, QD of those with it. -/
def Jrm (P:Program) (Gl:Nat→Option (List PV)) (c:Code) (Q QD:Exit→PSt→Prop) (s:PSt):Prop :=
 ∀ (S0:Bs) (w0:World) (a:Act) (w:World),S0.D=[]→S0.St=[]→Inv Gl S0 w0 s a w →
  c.wp P (fun e a' w'=>(∃ s',Q e s'∧Inv Gl S0 w0 s' a' w')∨∃ s' fv cap,QD e s'∧Inv Gl { S0 with D:=[{ target:=.fn fv cap,args:=#[] }],St:=[.func fv #[] cap] } w0 s' a' w') a w
def Juz (P:Program) (Gl:Nat→Option (List PV)) (y:Code) (Q QD:Exit→PSt→Prop):Exit→PSt→Prop
 | .normal,s=>Jrm P Gl y Q QD s
 | e,s=>Q e s
variable {Q QD:Exit→PSt→Prop} {x y:Code}
theorem Jgk (h:pwp P Gl x (Juz P Gl y Q QD) s):Jrm P Gl (.seq x y) Q QD s:=fun S0 w0 a w h1 h2 hi =>
 wp_seq (Wt (fun e _ _ ⟨s',q,i⟩=>by
  cases e <;> simp only [Exit.then]
  case normal=>exact q S0 w0 _ _ h1 h2 i
  all_goals exact .inl ⟨s',q,i⟩) (h S0 w0 a w hi))
theorem Jjy (h:Jrm P Gl y Q QD s):Juz P Gl y Q QD .normal s:=h
theorem Jy1 (h:Q .ret s):Juz P Gl y Q QD .ret s:=h
/-- The deferred closure. -/
def Jn3 (o:Oper) (s:PSt):Option (FuncId×List PV) :=
 match o.guard,o.dst,o.op with
 | none,none,.defer c=>match c.callee,c.args.toList with
  | .value x,[]=>match s.ev x with
   | .fn f caps=>some (f,caps)
   | _=>none
  | _,_=>none
 | _,_,_=>none
def Jyg (f:FuncId) (caps:List PV) (s:PSt):PSt:={ s with tm:=s.tm++[.fn f caps],m:=1 }
theorem Jhe {S0:Bs} {w0:World} {ops:Array Oper} {Q':Exit→Act→World→Prop} {l2:List Oper}:∀ (l1:List Oper) {s:PSt},Kp P Gl false (l1.map fun o=>(o,Xj ops o)) s (Up fun s'=>∀ a w,Inv Gl S0 w0 s' a w→wpList P ops Q' l2 a w)→∀ a w,Inv Gl S0 w0 s a w→wpList P ops Q' (l1++l2) a w
 | [],s,h=>fun a w hi=>let ⟨s2,h1,h2⟩:=h; h2 a w (hi.fade h1)
 | o::l,s,hp=>fun a w hi=>by
  obtain ⟨g,rfl,h⟩:=hi
  simp only [List.cons_append]
  unfold wpList
  simp only [List.map_cons,Kp] at hp
  rcases Og h hp with ⟨h1,h2⟩|⟨h1,h2⟩
  ·rw [if_pos h1]
   exact .inl (Hz h h2 fun s' a' w' hs' hi'=>Jhe l hs' a' w' hi')
  ·rw [if_neg (by rw [h1]; simp)]
   exact Jhe l h2 _ _ ⟨g,rfl,h.put _ (Rel.und _)⟩
/-- A region that ends with a defer, and what is behind it. -/
theorem Jfu {id:Nat} {ops:Array Oper} (k:Nat) (f:FuncId) (caps:List PV) (hk:ops.toList.length=k+1)
  (h:Kp P Gl false ((Jad ops).take k) s (Up fun s1=>((ops.toList.drop k).head?.bind fun o=>Jn3 o s1)=some (f,caps)∧(ops.toList.drop k).all (fun o=>o.guard.isNone&&o.dst.isNone)=true∧s1.m=0∧pwp P Gl y QD (Jyg f caps s1))):Jrm P Gl (.seq (.region id ops false) y) Q QD s:=fun S0 w0 a w hD hSt hi=>by
 refine wp_seq (wp_region_list ?_)
 have e:ops.toList=ops.toList.take k++ops.toList.drop k:=(List.take_append_drop _ _).symm
 rw [e]
 have h':Kp P Gl false ((ops.toList.take k).map fun o=>(o,Xj ops o)) s (Up fun s1=>((ops.toList.drop k).head?.bind fun o=>Jn3 o s1)=some (f,caps)∧(ops.toList.drop k).all (fun o=>o.guard.isNone&&o.dst.isNone)=true∧s1.m=0∧pwp P Gl y QD (Jyg f caps s1)):=by
  simpa [Jad,List.map_take] using h
 refine Jhe (S0:=S0) (w0:=w0) (ops.toList.take k) (Dm ?_ _ _ h') a w hi
 rintro s0 ⟨s1,hf,h1,h2,h3,h4⟩
 refine ⟨s1,hf,fun a w hi=>?_⟩
 obtain ⟨o,ho,hdf⟩:=Option.bind_eq_some_iff.1 h1
 have hl:ops.toList.drop k=[o]:=by
  have hlen:(ops.toList.drop k).length=1:=by rw [List.length_drop]; omega
  obtain ⟨o',ho'⟩:=List.length_eq_one_iff.1 hlen
  rw [ho'] at ho ⊢
  simpa using ho
 rw [hl]
 unfold Jn3 at hdf
 split at hdf
 ·rename_i c hg hd hop
  split at hdf
  ·rename_i x hcal hargs
   split at hdf
   ·rename_i f' caps' hev
    simp only [Option.some.injEq,Prod.mk.injEq] at hdf
    obtain ⟨rfl,rfl⟩:=hdf
    obtain ⟨g,rfl,hI⟩:=hi
    have hx:=hI.ev x
    rw [hev] at hx
    have hx0:=hx
    simp only [Rel,Qb,Kx] at hx
    obtain ⟨arr,hfv,hcaps⟩:=hx
    have hca:c.args=#[]:=by
     cases hc:c.args with|mk l=>rw [hc] at hargs; simpa using hargs
    have hrun:(execOp a.eval o).run P g.w=.ok (.defer { target:=.fn (.func f') arr,args:=#[] }) g.w:=by
     simp [execOp,hop,resolve,hcal,hfv,Deferred.ofValue,hca]
    unfold wpList
    have hw:Region.wanted o (yielded ops a.tmps)=true:=by unfold Region.wanted; rw [hg]
    rw [if_pos hw]
    left
    unfold Oper.wp
    rw [hrun,Oper.upon_defer,hd]
    unfold wpList
    simp only [Exit.then]
    have hlen:=hI.len
    have hinit:Inv Gl { S0 with D:=[{ target:=.fn (.func f') arr,args:=#[] }],St:=[.func (.func f') #[] arr] } w0 (Jyg f' caps' s1) ({ a with defers:={ target:=.fn (.func f') arr,args:=#[] }::a.defers }.put none undef) g.w:=by
     refine ⟨g,rfl,{ hI with defers:=?_,len:=⟨?_,rfl⟩,tm:=fun i p v hp hv=>?_ }⟩
     ·show { target:=Target.fn (.func f') arr,args:=#[] }::a.defers=_
      rw [hI.defers,hD]
     ·show (s1.tm++[PV.fn f' caps']).length=a.tmps.size+1
      rw [List.length_append]
      have:=hlen.1
      simp only [List.length_singleton]; omega
     ·have hp:(s1.tm++[PV.fn f' caps'])[i]? = some p:=hp
      have hv:(a.tmps.toList++[Value.func (.func f') #[] arr])[i]? = some v:=hv
      have hl1:s1.tm.length=a.tmps.toList.length:=by rw [Array.length_toList]; omega
      rw [List.getElem?_append] at hp hv
      rw [← hl1] at hv
      by_cases hi:i<s1.tm.length
      ·rw [if_pos hi] at hp hv
       exact hI.tm i p v hp (by rw [List.getElem?_append_left (by omega)]; exact hv)
      ·rw [if_neg hi] at hp hv
       cases hi2:i - s1.tm.length with
       | zero =>
        rw [hi2] at hp hv
        cases hp; cases hv
        rw [← hfv]; exact hx0
       | succ m=>rw [hi2] at hp; cases hp
    exact Wt (fun e a' w' ⟨s',q,i⟩=>.inr ⟨s',_,_,q,i⟩) (h4 _ w0 _ _ hinit)
   ·cases hdf
  ·cases hdf
 ·cases hdf
theorem Mc {S:Qj} {w:World} {St:List Value} {D:List Deferred} {s':PSt} {a':Act} {g:GG} {fn:Func} {r:PV} (hg:Kw Gl ⟨S,fun _ _=>False,fun _ _ _=>False,St,D⟩ w s' a' g) (h:Ea P Gl fn.results.toList r s') :
  ∃ v,(results fn a'.tmps).run P g.w=.ok v g.w∧∃ v_1 g',Ending.returned v=.returned v_1∧g'.w=g.w∧Bz S w r v_1 g':=by
 obtain ⟨ps,pv,h1,h2,h3,h4⟩:=h
 obtain ⟨us,r1,r2⟩:=Gg hg _ _ h1
 have hcut:Cut g (fun _=>none) (Jmb r):=⟨fun t x hx=>by
  have:=h4 _ (Em hx)
  rw [hg.hT]; exact this,fun l cs _ e=>(by cases e)⟩
 refine ⟨_, ?_,_,{ g with H:=fun _=>none,T:=Jmb r },rfl,rfl,⟨hg.below.toBelow (fun _ e=>e.elim (fun q=>q.elim fun _ q=>q) fun q=>by obtain ⟨_,_,_,q,_⟩:=q; exact q),hg.sub,fun B o hB=>(hg.new B o hB).imp id fun e=>⟨e.resolve_right (fun e=>e.elim (fun q=>q.elim fun _ q=>q) fun q=>by obtain ⟨_,_,_,q,_⟩:=q; exact q),hg.lt B o hB⟩,fun _=>rfl,fun t n k=>⟨fun e=>Em e,fun e=>Sv (fun y hy hyt=>?_) e⟩,(Jab h2 r2).weak hcut h3,fun t n k e=>hg.owns t n k (hcut.T t _ e),fun t t' B hs hs'=>?_⟩⟩
 ·rw [Bw,Array.mapM_eq_mapM_toList]
  simp only [Sem.run_bind,Sem.run_map,r1,Result.andThen_ok,Sem.run_pure]
 ·have e1:=h4 y hy
  have e2:=h4 _ e
  rw [hyt] at e1
  rw [e1] at e2
  simpa using e2
 ·obtain ⟨n,k,off,cap,e1,e2,e3⟩:=hs
  obtain ⟨n',k',off',cap',e1',e2',e3'⟩:=hs'
  exact hg.ownsEx t t' B ⟨n,k,off,cap,hcut.T t _ e1,e2,e3⟩ ⟨n',k',off',cap',hcut.T t' _ e1',e2',e3'⟩
theorem Jl7 {f:FuncId} {fn:Func} {c:Code} {args:List PV} {r:PV} {n:Nat} {rs:List ResultVar} (hf:P.funcs[f]? = some fn) (hname:(fn.name == "runtime.NumGoroutine")=false) (hb:fn.body=some c)
  (hn:fn.ntmps=n) (hrs:fn.results.toList=rs) (hflat:args.all Zn=true) (h:Jrm P Gl c (Jki P Gl rs r) (Jx0 P Gl rs r) (st0 args n)):Kj P Gl f args r:=by
 refine ⟨⟨fn,hf,hname,by rw [hb]; rfl⟩,fun S w vs hS hglob hargs=>?_⟩
 subst hn; subst hrs
 refine calls_of_wp_defers hf hb ?_
 have hsz:args.length=vs.size:=by rw [hargs.1]; simp
 have hinit:Inv Gl ⟨S,fun _ _=>False,fun _ _ _=>False,[],[]⟩ w (st0 args fn.ntmps) { tmps:=vs++Array.replicate (fn.ntmps - vs.size) undef,defers:=[] } w:=by
  refine ⟨⟨S,w,fun _=>0,fun _=>undef,fun _=>none,fun _=>none⟩,rfl,{ hH:=rfl,hT:=rfl,defers:=rfl,len:=by simp [st0,hsz],tm:=fun i p v hp hv=>?_,sub:=fun _ _ h=>h,new:=fun _ _ h=>.inl h,lt:=hS,below:=Vt.refl _ _,objs:=(fun l ob e=>by cases e),inj:=(fun l l' e=>by cases e),owns:=(fun t n k e=>by cases e),ownsEx:=(fun t t' B hs=>by obtain ⟨_,_,_,_,e,_⟩:=hs; cases e),ownsObj:=(fun t B l hs=>by obtain ⟨_,_,_,_,e,_⟩:=hs; cases e),glob:=hglob,exs:=(fun t k b xss e=>by cases e),exsEx:=(fun t t' B hs=>by have:=hs.1; cases this),fix:=fun _ _ e=>e.elim,fixT:=fun _ _ _ e=>e.elim }⟩
  simp only [st0] at hp
  simp only [List.append_nil,Array.getElem?_toList] at hv
  rw [List.getElem?_append] at hp
  by_cases hi:i<args.length
  ·rw [if_pos hi] at hp
   rw [Array.getElem?_append_left (by omega)] at hv
   exact Rel.ofData (g:=⟨S,w,_,_,_,_⟩) (hargs.2 i p v hp (by simpa using hv)) (List.all_eq_true.1 hflat p (List.mem_of_getElem? hp))
  ·rw [if_neg hi,List.getElem?_replicate] at hp
   split at hp
   ·cases hp; trivial
   ·cases hp
 refine Wt (fun e a' w' hq=>?_) (h ⟨S,fun _ _=>False,fun _ _ _=>False,[],[]⟩ w _ w rfl rfl hinit)
 rcases hq with ⟨s',hq,g,rfl,hg⟩|⟨s',fv,cap,hq,g,rfl,hg⟩
 ·have fin:Ea P Gl fn.results.toList r s'→Leaves P fn a'.tmps (fun e w'=>∃ v g',e=.returned v∧g'.w=w'∧Bz S w r v g') a'.defers .returning g.w:=fun q=>by
   rw [hg.defers]
   exact Mc hg q
  cases e with
  | normal=>exact fin hq
  | ret=>exact fin hq
  | exit id=>exact hq.elim
  | goto l=>exact hq.elim
  | panic ch=>exact hq.elim
  | outgrown=>exact hq.elim
 ·have fin:Jxt P Gl fn.results.toList r s'→Leaves P fn a'.tmps (fun e w'=>∃ v g',e=.returned v∧g'.w=w'∧Bz S w r v g') a'.defers .returning g.w:=fun q=>by
   obtain ⟨f2,caps,fn2,c2,k1,k2,k3,k4,k5,k6,k7,k8⟩:=q
   rw [hg.defers]
   have hl:=hg.len
   have hl1:s'.tm.length=a'.tmps.size+1:=by rw [hl.1,k2]
   have hlast:s'.tm[a'.tmps.size]? = some (.fn f2 caps):=by
    rw [List.getLast?_eq_getElem?] at k1
    rwa [hl1,Nat.add_sub_cancel] at k1
   have hfr:=hg.tm a'.tmps.size _ (.func fv #[] cap) hlast (by
    show (a'.tmps.toList++[Value.func fv #[] cap])[a'.tmps.size]? = _
    rw [List.getElem?_append_right (by simp)]; simp)
   simp only [Rel,Qb,Kx] at hfr
   obtain ⟨arr,hfv,hcaps⟩:=hfr
   cases hfv
   have hne:fn2.name ≠ "runtime.NumGoroutine" := by simpa using k5
   have hbody:fn2.body≠none:=fun e=>by rw [e] at k6; cases k6
   refine leaves_cons (f:=f2) (args:=cap) (by simp) (by simp [invoke,callFunc,run_program,k4,hne,hbody]) ?_
   have hall:Kv (Rel g) caps cap.toList:=⟨hcaps.1,fun i p v hp hv=>by
    have hpv:=hcaps.2 i p v hp hv
    have h2:=List.all_eq_true.1 k3 p (List.mem_of_getElem? hp)
    cases p <;> simp only [Bh] at h2 <;> try cases h2
    all_goals exact hpv⟩
   refine CallsD.mono (callsD_of_wp (R:=fun e w'=>∃ v,e=.returned v∧Leaves P fn a'.tmps (fun e w'=>∃ v g',e=.returned v∧g'.w=w'∧Bz S w r v g') [] .returning w') k4 k6 ?_) ?_
   ·have hsz2:caps.length=cap.size:=by rw [hall.1]; simp
    have hinit2:Inv Gl ⟨S,fun _ _=>False,fun _ _ _=>False,a'.tmps.toList++[Value.func (.func f2) #[] cap],[]⟩ w (Gt fn2.ntmps caps s') { tmps:=cap++Array.replicate (fn2.ntmps - cap.size) undef,defers:=[] } g.w:=by
     refine ⟨g,rfl,{ hg with defers:=rfl,len:=⟨?_, ?_⟩,tm:=fun i p v hp hv=>?_ }⟩
     ·simp only [Gt,List.length_append,List.length_replicate,Array.size_append,Array.size_replicate,hsz2]
     ·show (a'.tmps.toList++[Value.func (.func f2) #[] cap]).length=s'.tm.length
      rw [List.length_append,Array.length_toList]; simp only [List.length_singleton]; omega
     ·simp only [Gt] at hp
      have hl2:(caps++List.replicate (fn2.ntmps - caps.length) PV.any).length=(cap++Array.replicate (fn2.ntmps - cap.size) undef).toList.length:=by
       simp [hsz2]
      rw [List.getElem?_append] at hp
      have hv:((cap++Array.replicate (fn2.ntmps - cap.size) undef).toList++(a'.tmps.toList++[Value.func (.func f2) #[] cap]))[i]? = some v:=hv
      rw [List.getElem?_append,← hl2] at hv
      by_cases hi:i<(caps++List.replicate (fn2.ntmps - caps.length) PV.any).length
      ·rw [if_pos hi] at hp hv
       rw [List.getElem?_append] at hp
       by_cases hi2:i<caps.length
       ·rw [if_pos hi2] at hp
        rw [Array.toList_append,List.getElem?_append_left (by rw [← hall.1]; exact hi2)] at hv
        exact hall.2 i p v hp hv
       ·rw [if_neg hi2,List.getElem?_replicate] at hp
        split at hp
        ·cases hp; trivial
        ·cases hp
      ·rw [if_neg hi] at hp hv
       exact hg.tm _ p v hp hv
    refine Wt (fun e3 a3 w3 hq3=>?_) (k8 _ w _ g.w hinit2)
    obtain ⟨s3,hq3,g3,rfl,hg3⟩:=hq3
    have fin3:Ea P Gl fn.results.toList r { s3 with tm:=s3.tm.drop (s3.tm.length - s3.m),m:=1 }→a3.defers=[]∧∃ v,(results fn2 a3.tmps).run P g3.w=.ok v g3.w∧∃ v2,Ending.returned v=.returned v2∧Leaves P fn a'.tmps (fun e w'=>∃ v g',e=.returned v∧g'.w=w'∧Bz S w r v g') [] .returning g3.w:=fun q=>by
     have hl3:=hg3.len
     have hm3:s3.m=a'.tmps.size+1:=by
      have e:(a'.tmps.toList++[Value.func (.func f2) #[] cap]).length=s3.m:=hl3.2
      rw [List.length_append,Array.length_toList] at e
      simp only [List.length_singleton] at e; omega
     have hbase:Kw Gl ⟨S,fun _ _=>False,fun _ _ _=>False,[Value.func (.func f2) #[] cap],[]⟩ w { s3 with tm:=s3.tm.drop (s3.tm.length - s3.m),m:=1 } { tmps:=a'.tmps,defers:=[] } g3:=by
      refine { hg3 with defers:=rfl,len:=⟨?_,rfl⟩,tm:=fun i p v hp hv=>?_ }
      ·show (s3.tm.drop (s3.tm.length - s3.m)).length=a'.tmps.size+1
       rw [List.length_drop]; omega
      ·have hp:(s3.tm.drop (s3.tm.length - s3.m))[i]? = some p:=hp
       rw [List.getElem?_drop] at hp
       refine hg3.tm _ p v hp ?_
       show (a3.tmps.toList++(a'.tmps.toList++[Value.func (.func f2) #[] cap]))[_]? = some v
       have e:s3.tm.length - s3.m=a3.tmps.toList.length:=by rw [Array.length_toList]; omega
       rw [e,List.getElem?_append_right (by omega),Nat.add_sub_cancel_left]
       exact hv
     refine ⟨hg3.defers,.tuple #[], ?_,_,rfl,Mc (a':={ tmps:=a'.tmps,defers:=[] }) hbase q⟩
     rw [Bw,Array.mapM_eq_mapM_toList,k7]
     simp
    cases e3 with
    | normal=>exact fin3 hq3
    | ret=>exact fin3 hq3
    | exit id=>exact hq3.elim
    | goto l=>exact hq3.elim
    | panic ch=>exact hq3.elim
    | outgrown=>exact hq3.elim
   ·rintro e3 u3 w3 ⟨rfl,v3,rfl,hL⟩
    exact hL
  cases e with
  | normal=>exact fin hq
  | ret=>exact fin hq
  | exit id=>exact hq.elim
  | goto l=>exact hq.elim
  | panic ch=>exact hq.elim
  | outgrown=>exact hq.elim
/-- A return: the deferred closure's body. -/
theorem Jy4 {f n:Nat} {caps:List PV} {fn:Func} {c:Code} {rs:List ResultVar} {r:PV} (h:(s.tm.getLast?,s.m,caps.all Bh)=(some (.fn f caps),1,true)) (hf:P.funcs[f]? = some fn) (hname:(fn.name == "runtime.NumGoroutine")=false) (hb:fn.body=some c)
  (hn:fn.ntmps=n) (hres:fn.results.toList=[]) (h2:pwp P Gl c (Jfg P Gl rs r) (Gt n caps s)):Jx0 P Gl rs r .ret s:=by
 subst hn
 simp only [Prod.mk.injEq] at h
 exact ⟨f,caps,fn,c,h.1,h.2.1,h.2.2,hf,hname,hb,hres,h2⟩
def outD (s:PSt):PSt:={ s with tm:=s.tm.drop (s.tm.length - s.m),m:=1 }
theorem Jey {rs:List ResultVar} {r:PV} (h:(Jho P Gl rs (outD s)).map (fun v=>(Jar v,Cp r v))=some (true,r)) (hl:Cs (fun _=>none) (Jmb r) r=true)
  (ht:(Vw r).map (fun x=>s.T x.1)=(Vw r).map fun x=>some x.2):Jfg P Gl rs r .normal s:=Jx1 (s:=outD s) h hl ht
end
end PM
/-
 THE PURE MACHINE, Qn: functions that may panic (PCallP), regions that end so.
-/
namespace PM
open Go Go.RowKit
/-- A panic with a value, which nobody has recovered yet. -/
def Jce (ch:List PanicEntry):Prop:=∃ t v,ch=[{ v:=.iface t v,recovered:=false }]
/-- A CONTRACT with panics: none: the function panics. -/
def Jls (P:Program) (Gl:Nat→Option (List PV)) (f:FuncId) (args:List PV) (o:Option PV):Prop :=
 Jpy P f∧∀ (S:Qj) (w:World) (vs:Array Value),(∀ B o,S B o→B<w.heap.size)→(∀ i cs,Gl i=some cs→Ck S w cs i)→Kv (Kh S w) args vs.toList →
  Calls P f vs w fun e w'=>(∃ r v g',o=some r∧e=.returned v∧g'.w=w'∧Bz S w r v g')∨(∃ ch g',o=none∧e=.panicked ch∧Jce ch∧g'.w=w'∧Bz S w (.tup []) (.tuple #[]) g')
/-- A call that may panic: z is what the panic leads to. -/
def Jyz {α β:Type} (D:Option (Option α)) (z:Option β) (f:α→Option β):Option β:=D.bind fun o=>match o with
 | none=>z
 | some r=>f r
theorem Jze {α β:Type} {D:Option (Option α)} {z:Option β} {f:α→Option β} {b:β} (h:Jyz D z f=some b):(D=some none∧z=some b)∨∃ r,D=some (some r)∧f r=some b:=by
 unfold Jyz at h
 obtain ⟨o,h1,h2⟩:=Option.bind_eq_some_iff.1 h
 cases o with
 | none=>exact .inl ⟨h1,h2⟩
 | some r=>exact .inr ⟨r,h1,h2⟩
section
variable {P:Program} {Gl:Nat→Option (List PV)} {s:PSt}
def Jub (P:Program) (Gl:Nat→Option (List PV)) (rs:List ResultVar) (o:Option PV):Exit→PSt→Prop
 | .normal,s|.ret,s=>∃ r,o=some r∧Ea P Gl rs r s
 | .panic ch,_=>o=none∧Jce ch
 | _,_=>False
theorem Jmm {S:Qj} {w:World} {St:List Value} {D:List Deferred} {s':PSt} {a':Act} {g:GG} (hg:Kw Gl ⟨S,fun _ _=>False,fun _ _ _=>False,St,D⟩ w s' a' g) :
  Bz S w (.tup []) (.tuple #[]) { g with H:=fun _=>none,T:=fun _=>none } :=
 ⟨hg.below.toBelow (fun _ e=>e.elim (fun q=>q.elim fun _ q=>q) fun q=>by obtain ⟨_,_,_,q,_⟩:=q; exact q),hg.sub,
  fun B o hB=>(hg.new B o hB).imp id fun e=>⟨e.resolve_right (fun e=>e.elim (fun q=>q.elim fun _ q=>q) fun q=>by obtain ⟨_,_,_,q,_⟩:=q; exact q),hg.lt B o hB⟩,
  fun _=>rfl,fun t n k=>⟨(fun e=>by cases e),(fun e=>by simp [Vw] at e)⟩,by simp [Rel,Kv],(fun t n k e=>by cases e),(fun t t' B hs=>by obtain ⟨_,_,_,_,e,_⟩:=hs; cases e)⟩
theorem Jdv {S:Qj} {w:World} {vs:Array Value} {args:List PV} {n:Nat} (hS:∀ B o,S B o→B<w.heap.size) (hglob:∀ i cs,Gl i=some cs→Ck S w cs i) (hargs:Kv (Kh S w) args vs.toList) (hflat:args.all Zn=true) :
  Inv Gl ⟨S,fun _ _=>False,fun _ _ _=>False,[],[]⟩ w (st0 args n) { tmps:=vs++Array.replicate (n - vs.size) undef,defers:=[] } w:=by
 have hsz:args.length=vs.size:=by rw [hargs.1]; simp
 refine ⟨⟨S,w,fun _=>0,fun _=>undef,fun _=>none,fun _=>none⟩,rfl,{ hH:=rfl,hT:=rfl,defers:=rfl,len:=by simp [st0,hsz],tm:=fun i p v hp hv=>?_,sub:=fun _ _ h=>h,new:=fun _ _ h=>.inl h,lt:=hS,below:=Vt.refl _ _,objs:=(fun l ob e=>by cases e),inj:=(fun l l' e=>by cases e),owns:=(fun t n k e=>by cases e),ownsEx:=(fun t t' B hs=>by obtain ⟨_,_,_,_,e,_⟩:=hs; cases e),ownsObj:=(fun t B l hs=>by obtain ⟨_,_,_,_,e,_⟩:=hs; cases e),glob:=hglob,exs:=(fun t k b xss e=>by cases e),exsEx:=(fun t t' B hs=>by have:=hs.1; cases this),fix:=fun _ _ e=>e.elim,fixT:=fun _ _ _ e=>e.elim }⟩
 simp only [st0] at hp
 simp only [List.append_nil,Array.getElem?_toList] at hv
 rw [List.getElem?_append] at hp
 by_cases hi:i<args.length
 ·rw [if_pos hi] at hp
  rw [Array.getElem?_append_left (by omega)] at hv
  exact Rel.ofData (g:=⟨S,w,_,_,_,_⟩) (hargs.2 i p v hp (by simpa using hv)) (List.all_eq_true.1 hflat p (List.mem_of_getElem? hp))
 ·rw [if_neg hi,List.getElem?_replicate] at hp
  split at hp
  ·cases hp; trivial
  ·cases hp
theorem Jmg {f:FuncId} {fn:Func} {c:Code} {args:List PV} {o:Option PV} {n:Nat} {rs:List ResultVar} (hf:P.funcs[f]? = some fn) (hname:(fn.name == "runtime.NumGoroutine")=false) (hb:fn.body=some c)
  (hn:fn.ntmps=n) (hrs:fn.results.toList=rs) (hflat:args.all Zn=true) (h:pwp P Gl c (Jub P Gl rs o) (st0 args n)):Jls P Gl f args o:=by
 refine ⟨⟨fn,hf,hname,by rw [hb]; rfl⟩,fun S w vs hS hglob hargs=>?_⟩
 subst hn; subst hrs
 refine calls_of_wp hf hb ?_
 refine Wt (fun e a' w' hq=>?_) (h ⟨S,fun _ _=>False,fun _ _ _=>False,[],[]⟩ w _ w (Jdv hS hglob hargs hflat))
 obtain ⟨s',hq,g,rfl,hg⟩:=hq
 have fin:(∃ r,o=some r∧Ea P Gl fn.results.toList r s')→a'.defers=[]∧∃ v,(results fn a'.tmps).run P g.w=.ok v g.w∧((∃ r v' g',o=some r∧Ending.returned v=.returned v'∧g'.w=g.w∧Bz S w r v' g')∨(∃ ch g',o=none∧Ending.returned v=.panicked ch∧Jce ch∧g'.w=g.w∧Bz S w (.tup []) (.tuple #[]) g')):=by
  rintro ⟨r,ho,hr⟩
  obtain ⟨v,q1,v',g',q2,q3,q4⟩:=Mc (fn:=fn) hg hr
  exact ⟨hg.defers,v,q1,.inl ⟨r,v',g',ho,q2,q3,q4⟩⟩
 cases e with
 | normal=>exact fin hq
 | ret=>exact fin hq
 | exit id=>exact hq.elim
 | goto l=>exact hq.elim
 | panic ch=>exact ⟨hg.defers,.inr ⟨ch,{ g with H:=fun _=>none,T:=fun _=>none },hq.1,rfl,hq.2,rfl,Jmm hg⟩⟩
 | outgrown=>exact hq.elim
/-! ### Results and ways out -/
theorem Jyy {rs:List ResultVar} {ch:List PanicEntry} (h:Jce ch):Jub P Gl rs none (.panic ch) s:=⟨rfl,h⟩
theorem Jh7 {y:Code} {Q:Exit→PSt→Prop} {ch:List PanicEntry} (h:Q (.panic ch) s):Jv3 P Gl y Q (.panic ch) s:=h
theorem Sc {id:Nat} {Q:Exit→PSt→Prop} {ch:List PanicEntry} (h:Q (.panic ch) s):Jax id Q (.panic ch) s:=h
theorem Bv {α β:Type} {J:α→JS} {b:β} {n:Nat} {Q:Exit→PSt→Prop} {ch:List PanicEntry} (h:Q (.panic ch) s):Xg J n Q (.inr b) (.panic ch) s:=⟨by simp,h⟩
theorem Jkj {α β σ:Type} {J:σ→JS} {J0:α→JS} {n id:Nat} {Q:Exit→PSt→Prop} {b:β} {r:α⊕β} {ch:List PanicEntry} (h:.inr b=r→Q (.panic ch) s):Gr J J0 n id Q r (.inr (.inr b)) (.panic ch) s:=fun e=>⟨by simp,h e⟩
/-! ### Regions with several ways out -/
def wlE (P:Program) (Gl:Nat→Option (List PV)) (ops:Array Oper) (L:List Oper) (s:PSt) (Q:Exit→PSt→Prop):Prop :=
 ∀ (S0:Bs) (w0:World) (a:Act) (w:World) (Q':Exit→Act→World→Prop),(∀ e s' a' w',Q e s'→Inv Gl S0 w0 s' a' w'→Q' e a' w')→Inv Gl S0 w0 s a w→wpList P ops Q' L a w
variable {ops:Array Oper} {Q:Exit→PSt→Prop}
theorem Jr2 (h:Q .normal s):wlE P Gl ops [] s Q:=fun S0 w0 a w Q' hQ hi=>hQ _ s a w h hi
theorem Jke : ∀ (l1:List Oper) {l2:List Oper} {s:PSt},Kp P Gl false (l1.map fun o=>(o,Xj ops o)) s (Up fun s'=>wlE P Gl ops l2 s' Q)→wlE P Gl ops (l1++l2) s Q
 | [],l2,s,h=>fun S0 w0 a w Q' hQ hi=>let ⟨s2,h1,h2⟩:=h; h2 S0 w0 a w Q' hQ (hi.fade h1)
 | o::l,l2,s,hp=>fun S0 w0 a w Q' hQ hi=>by
  obtain ⟨g,rfl,h⟩:=hi
  simp only [List.cons_append]
  unfold wpList
  simp only [List.map_cons,Kp] at hp
  rcases Og h hp with ⟨h1,h2⟩|⟨h1,h2⟩
  ·rw [if_pos h1]
   exact .inl (Hz h h2 fun s' a' w' hs' hi'=>Jke l hs' S0 w0 a' w' Q' hQ hi')
  ·rw [if_neg (by rw [h1]; simp)]
   exact Jke l h2 S0 w0 _ _ Q' hQ ⟨g,rfl,h.put _ (Rel.und _)⟩
theorem Lm (k n:Nat) (h:Kp P Gl false (((Jad ops).drop k).take n) s (Up fun s'=>wlE P Gl ops (ops.toList.drop (k+n)) s' Q)):wlE P Gl ops (ops.toList.drop k) s Q:=by
 have e:ops.toList.drop k=(ops.toList.drop k).take n++ops.toList.drop (k+n):=by
  rw [← List.drop_drop,List.take_append_drop]
 rw [e]
 refine Jke _ ?_
 simpa [Jad,List.map_drop,List.map_take] using h
theorem Jct {id:Nat} (h:wlE P Gl ops (ops.toList.drop 0) s Q):pwp P Gl (.region id ops false) Q s:=fun S0 w0 a w hi =>
 wp_region_list (h S0 w0 a w _ (fun _ s' _ _ q i=>⟨s',q,i⟩) hi)
/-- The call at the head, its arguments as data. -/
def Jd5 (L:List Oper) (s:PSt):Option (FuncId×List PV):=(Jp4 L s).bind fun x=>(Hm x.2).map fun d=>(x.1,d)
theorem Jr1 {f:FuncId} {as:List PV} {o:Option PV} {L:List Oper} (hc:Jls P Gl f as o) (h:(Jd5 L s).map (fun x=>(x.1,Im as x.2))=some (f,as))
  (h1:∀ r,o=some r→Zp ((Jcw L).getD 0) s.T (Vw r)∧wlE P Gl ops (L.drop 1) ((addToks ((Jcw L).getD 0) s (Vw r)).put (Jcw L) (Pd ((Jcw L).getD 0) r)) Q)
  (h2:o=none→∀ ch,Jce ch→Q (.panic ch) s):wlE P Gl ops L s Q:=by
 cases L with
 | nil=>cases h
 | cons p r =>
  obtain ⟨⟨f',as'⟩,hh,heq⟩:=Option.map_eq_some_iff.1 h
  simp only [Prod.mk.injEq] at heq
  obtain ⟨rfl,heq⟩:=heq
  obtain ⟨⟨f'',AS⟩,hh1,hh2⟩:=Option.bind_eq_some_iff.1 hh
  obtain ⟨d,hd,hd2⟩:=Option.map_eq_some_iff.1 hh2
  simp only [Prod.mk.injEq] at hd2
  obtain ⟨rfl,rfl⟩:=hd2
  simp only [Jp4] at hh1
  split at hh1
  ·rename_i x args hg hco
   split at hh1
   ·rename_i f' caps e1
    split at hh1
    rotate_left
    ·cases hh1
    rename_i hcap
    simp only [Option.some.injEq,Prod.mk.injEq] at hh1
    obtain ⟨rfl,rfl⟩:=hh1
    obtain ⟨cl,hop,hcal,hargs⟩:=Wr hco
    intro S0 w0 a w Q' hQ hi
    obtain ⟨g,rfl,hI⟩:=hi
    have hx:=hI.ev x
    rw [e1] at hx
    simp only [Rel,Qb,Kx] at hx
    obtain ⟨arr,hfv,hcaps⟩:=hx
    have hall:Kv (Rel g) (args.map s.ev++caps) ((cl.args.map a.eval++arr).toList):=by
     rw [Array.toList_append,Array.toList_map,hargs]
     refine Kv.append ⟨by simp,fun i p v hp hv=>?_⟩ ⟨hcaps.1,fun i p v hp hv=>?_⟩
     ·rw [List.getElem?_map] at hp hv
      cases hi:args[i]? with
      | none=>rw [hi] at hp; cases hp
      | some y=>rw [hi] at hp hv; cases hp; cases hv; exact hI.ev y
     ·have hpv:=hcaps.2 i p v hp hv
      have h2:=List.all_eq_true.1 hcap p (List.mem_of_getElem? hp)
      cases p <;> simp only [Bh] at h2 <;> try cases h2
      all_goals exact hpv
    obtain ⟨⟨fn,hf,hname,hb⟩,hcall⟩:=hc
    have hrun:(execOp a.eval p).run P g.w=.ok (.enter f' (cl.args.map a.eval++arr)) g.w:=by
     have hne:fn.name ≠ "runtime.NumGoroutine" := by simpa using hname
     have hbody:fn.body≠none:=fun e=>by rw [e] at hb; cases hb
     simp [execOp,hop,resolve,hcal,hfv,Deferred.ofValue,invoke,callFunc,run_program,hf,hne,hbody]
    have hD0:=Dl hall hd
    have hD:Kv (Kh g.S g.w) as (cl.args.map a.eval++arr).toList:=by have:=Gh (ps:=as) hD0; rw [heq] at this; exact this
    unfold wpList
    have hw:Region.wanted p (yielded ops a.tmps)=true:=by unfold Region.wanted; rw [hg]
    rw [if_pos hw]
    left
    unfold Oper.wp
    rw [hrun]
    refine (hcall g.S g.w _ hI.lt hI.glob hD).mono fun e w' he=>?_
    rcases he with ⟨r',v,g',ho,rfl,rfl,ha⟩|⟨ch,g',ho,rfl,hpan,rfl,ha⟩
    ·obtain ⟨k1,k2⟩:=h1 r' ho
     obtain ⟨g2,q1,q2,q3⟩:=hI.after ha (p.dst.getD 0) k1
     exact k2 S0 w0 _ _ Q' hQ ⟨g2,q2,q1.put _ q3⟩
    ·obtain ⟨g2,q1,q2,-⟩:=hI.after ha 0 (by simp [Vw,Zp])
     simp only [Vw,List.flatMap_nil,addToks] at q1
     exact hQ _ _ _ _ (h2 ho ch hpan) ⟨g2,q2,q1⟩
   ·cases hh1
  ·cases hh1
theorem Jwq {f:FuncId} {as:List PV} {r:PV} {L:List Oper} (hc:Jls P Gl f as (some r)) (h:(Jd5 L s).map (fun x=>(x.1,Im as x.2))=some (f,as)) (ht:Jq5 false ((Jcw L).getD 0) s.T (Vw r)=true)
  (h1:wlE P Gl ops (L.drop 1) ((addToks ((Jcw L).getD 0) s (Vw r)).put (Jcw L) (Pd ((Jcw L).getD 0) r)) Q):wlE P Gl ops L s Q :=
 Jr1 hc h (fun r' e=>by cases e; exact ⟨(Xi ht).1,h1⟩) (fun e=>by cases e)
theorem Jwt {f:FuncId} {as:List PV} {L:List Oper} (hc:Jls P Gl f as none) (h:(Jd5 L s).map (fun x=>(x.1,Im as x.2))=some (f,as)) (h2:∀ ch,Jce ch→Q (.panic ch) s):wlE P Gl ops L s Q :=
 Jr1 hc h (fun r' e=>by cases e) (fun _=>h2)
/-- A value is boxed and thrown. -/
def Jnn : Option TypeDesc→Bool
 | some (.interface _)=>false
 | some _=>true
 | none=>false
def Jx5 (P:Program):List Oper→PSt→Option Nat
 | [o1,o2],s=>match o1.guard,o1.dst,o1.op,o2.guard,o2.op with
  | none,some d,.makeInterface t _,none,.panic (.tmp d')=>if (d' == d&&decide (d+s.m<s.tm.length)&&Jnn (P.underlying t))=true then some d else none
  | _,_,_,_,_=>none
 | _,_=>none
theorem Jy2 {L:List Oper} {d:Nat} (h:Jx5 P L s=some d) (hQ:∀ ch,Jce ch→Q (.panic ch) (s.put (some d) .any)):wlE P Gl ops L s Q:=by
 unfold Jx5 at h
 split at h
 ·rename_i o1 o2
  split at h
  ·rename_i d0 t x d' hg1 hd1 hop1 hg2 hop2
   split at h
   ·rename_i hc
    cases h
    simp only [Bool.and_eq_true,beq_iff_eq,decide_eq_true_eq] at hc
    obtain ⟨⟨rfl,hlt⟩,hif⟩:=hc
    intro S0 w0 a w Q' hQ' hi
    obtain ⟨g,rfl,hI⟩:=hi
    have hlen:=hI.len.1
    have hda:d'<a.tmps.size:=by rw [hlen] at hlt; exact Nat.lt_of_add_lt_add_right hlt
    have hw1:Region.wanted o1 (yielded ops a.tmps)=true:=by unfold Region.wanted; rw [hg1]
    have hrun1:(execOp a.eval o1).run P g.w=.ok (.value (.iface t (a.eval x))) g.w:=by
     cases hu:P.underlying t with
     | none=>rw [hu] at hif; cases hif
     | some D =>
      rw [hu] at hif
      cases D <;> first|(cases hif; done)|simp [execOp,hop1,Instr.makeInterface,run_underlying hu]
    unfold wpList
    rw [if_pos hw1]
    left
    unfold Oper.wp
    rw [hrun1,Oper.upon_value,hd1]
    unfold wpList
    have hw2:∀ y,Region.wanted o2 y=true:=fun y=>by unfold Region.wanted; rw [hg2]
    rw [if_pos (hw2 _)]
    left
    unfold Oper.wp
    have hev:(a.put (some d') (.iface t (a.eval x))).eval (.tmp d')=.iface t (a.eval x):=by simp [Act.put,Act.eval,hda]
    have hrun2:(execOp (a.put (some d') (.iface t (a.eval x))).eval o2).run P g.w=.halt (.panic (.iface t (a.eval x))) g.w:=by
     simp only [execOp,hop2,hev]
     rfl
    rw [hrun2]
    exact hQ' _ _ _ _ (hQ _ ⟨t,a.eval x,rfl⟩) ⟨g,rfl,hI.put _ (by trivial)⟩
   ·cases h
  ·cases h
 ·cases h
end
end PM
/-
 THE PURE MACHINE, Qo: a deferred closure that recovers.
-/
namespace PM
open Go Go.RowKit
section
variable {P:Program} {Gl:Nat→Option (List PV)} {s:PSt}
theorem Jps {c:Code} {Q Q':Exit→Act→List Frame→World→Prop} {a:Act} {cs:List Frame} {w:World} (h:c.wpS P Q a cs w) (hm:∀ e a cs w,Q e a cs w→Q' e a cs w):c.wpS P Q' a cs w :=
 fun b k hb hr=>let ⟨e,a',cs',w',q,r⟩:=h b k hb hr; ⟨e,a',cs',w',hm _ _ _ _ q,r⟩
/-- Code of a deferred closure; pan: it runs since there was a panic. -/
def Jv4 (P:Program) (Gl:Nat→Option (List PV)) (pan:Bool) (c:Code) (Q:Exit→PSt→Prop) (s:PSt):Prop :=
 ∀ (S0:Bs) (w0:World) (a:Act) (w:World) (c0:Frame) (cs:List Frame),Inv Gl S0 w0 s a w→(pan=true→∃ ch,Jce ch∧c0.mode=.panicking ch)→(pan=false→c0.mode=.returning) →
  c.wpS P (fun e a' cs' w'=>(∃ s',Q e s'∧Inv Gl S0 w0 s' a' w')∧∃ u',cs'={ c0 with mode:=u' }::cs∧Go.settle u'=.returning) a (c0::cs) w
theorem Jlc {pan:Bool} {c:Code} {Q:Exit→PSt→Prop} {s':PSt} (hw:Wkr s s') (h:Jv4 P Gl pan c Q s'):Jv4 P Gl pan c Q s:=fun S0 w0 a w c0 cs hi=>h S0 w0 a w c0 cs (hw Gl S0 w0 a w hi)
/-- What recover hands on, and the question whether it is nil. -/
structure Jyn (P:Program) (o0 o1:Oper) (d0 d1:Nat):Prop where
 g0:o0.guard=none
 g1:o1.guard=none
 e0:o0.dst=some d0
 e1:o1.dst=some d1
 r0:∀ (a:Act) (w:World),(execOp a.eval o0).run P w=.ok .recover w
 r1:∀ (a:Act) (w:World) (t:TypeId) (v:Value),a.eval (.tmp d0)=.iface t v→(execOp a.eval o1).run P w=.ok (.value (.bool true)) w
 r2:∀ (a:Act) (w:World),a.eval (.tmp d0)=.nilIface→(execOp a.eval o1).run P w=.ok (.value (.bool false)) w
theorem Jkt {a:Act} {d:Nat} {v:Value} (h:d<a.tmps.size):(a.put (some d) v).eval (.tmp d)=v:=by
 simp [Act.put,Act.eval,h]
theorem Jhj {pan:Bool} {id d0 d1:Nat} {o0 o1:Oper} {y:Code} {Q:Exit→PSt→Prop} (ho:Jyn P o0 o1 d0 d1) (hd:decide (d0+s.m<s.tm.length)=true) (h:pwp P Gl y Q ((s.put (some d0) .any).put (some d1) (.bool pan))) :
  Jv4 P Gl pan (.seq (.region id #[o0,o1] false) y) Q s:=by
 intro S0 w0 a w c0 cs hi hp hn
 apply wpS_seq
 apply wpS_region
 obtain ⟨g,rfl,hI⟩:=hi
 have hlen:=hI.len.1
 have hda:d0<a.tmps.size:=by have:=of_decide_eq_true hd; omega
 have hw0:∀ y,Region.wanted o0 y=true:=fun y=>by unfold Region.wanted; rw [ho.g0]
 have hw1:∀ y,Region.wanted o1 y=true:=fun y=>by unfold Region.wanted; rw [ho.g1]
 have e2:List.range (#[o0,o1]:Array Oper).size=[0,1]:=rfl
 rw [e2]
 have fin:∀ (v:Value) (b:Bool) (cs1:List Frame),(execOp (a.put (some d0) v).eval o1).run P g.w=.ok (.value (.bool b)) g.w→b=pan→(∃ u',cs1={ c0 with mode:=u' }::cs∧Go.settle u'=.returning) →
   wpOpsS P #[o0,o1] (Exit.thenS (y.wpS P fun e a' cs' w'=>(∃ s',Q e s'∧Inv Gl S0 w0 s' a' w')∧∃ u',cs'={ c0 with mode:=u' }::cs∧Go.settle u'=.returning) fun e a' cs' w'=>(∃ s',Q e s'∧Inv Gl S0 w0 s' a' w')∧∃ u',cs'={ c0 with mode:=u' }::cs∧Go.settle u'=.returning) [1] (a.put (some d0) v) cs1 g.w:=by
  intro v b cs1 hr hb hcs
  subst hb
  have hx:(#[o0,o1]:Array Oper)[1]? = some o1:=rfl
  unfold wpOpsS
  rw [hx]
  simp only [hw1,if_true,hr,Oper.upon_value,ho.e1]
  unfold wpOpsS
  simp only [Exit.thenS]
  refine wpS_of_wp ?_
  have h2:=h S0 w0 ((a.put (some d0) v).put (some d1) (.bool b)) g.w ⟨g,rfl,(hI.put (some d0) (p:=.any) (by trivial)).put (some d1) (by rw [Vx])⟩
  exact Wt (fun e a' w' hq=>⟨hq,hcs⟩) h2
 unfold wpOpsS
 have hx:(#[o0,o1]:Array Oper)[0]? = some o0:=rfl
 rw [hx]
 simp only [hw0,if_true,ho.r0]
 cases pan with
 | true =>
  obtain ⟨ch,⟨t,v,rfl⟩,hm⟩:=hp rfl
  simp only [recoverD,hm,ho.e0]
  exact fin _ true _ (ho.r1 _ _ t v (Jkt hda)) rfl ⟨_,rfl,by simp [Go.settle]⟩
 | false =>
  have hm:=hn rfl
  simp only [recoverD,hm,ho.e0]
  exact fin _ false _ (ho.r2 _ _ (Jkt hda)) rfl ⟨.returning,by rw [← hm],rfl⟩
/-! ### Bodies -/
def Jh6 (P:Program) (Gl:Nat→Option (List PV)) (rs:List ResultVar) (r:PV) (pan:Bool) (s:PSt):Prop :=
 ∃ f caps fn c,s.tm.getLast? = some (.fn f caps)∧s.m=1∧caps.all Bh=true∧P.funcs[f]? = some fn∧(fn.name == "runtime.NumGoroutine")=false∧fn.body=some c∧fn.results.toList=[]∧Jv4 P Gl pan c (Jfg P Gl rs r) (Gt fn.ntmps caps s)
def Jrc (P:Program) (Gl:Nat→Option (List PV)) (rs:List ResultVar) (r:PV):Exit→PSt→Prop
 | .normal,s|.ret,s=>Jh6 P Gl rs r false s
 | .panic ch,s=>Jce ch∧Jh6 P Gl rs r true s
 | _,_=>False
theorem Jl5 {f:FuncId} {fn:Func} {c:Code} {args:List PV} {r:PV} {n:Nat} {rs:List ResultVar} (hf:P.funcs[f]? = some fn) (hname:(fn.name == "runtime.NumGoroutine")=false) (hb:fn.body=some c)
  (hn:fn.ntmps=n) (hrs:fn.results.toList=rs) (hflat:args.all Zn=true) (h:Jrm P Gl c (Jki P Gl rs r) (Jrc P Gl rs r) (st0 args n)):Kj P Gl f args r:=by
 refine ⟨⟨fn,hf,hname,by rw [hb]; rfl⟩,fun S w vs hS hglob hargs=>?_⟩
 subst hn; subst hrs
 refine calls_of_wp_defers hf hb ?_
 refine Wt (fun e a' w' hq=>?_) (h ⟨S,fun _ _=>False,fun _ _ _=>False,[],[]⟩ w _ w rfl rfl (Jdv hS hglob hargs hflat))
 rcases hq with ⟨s',hq,g,rfl,hg⟩|⟨s',fv,cap,hq,g,rfl,hg⟩
 ·have fin:Ea P Gl fn.results.toList r s'→Leaves P fn a'.tmps (fun e w'=>∃ v g',e=.returned v∧g'.w=w'∧Bz S w r v g') a'.defers .returning g.w:=fun q=>by
   rw [hg.defers]
   exact Mc hg q
  cases e with
  | normal=>exact fin hq
  | ret=>exact fin hq
  | exit id=>exact hq.elim
  | goto l=>exact hq.elim
  | panic ch=>exact hq.elim
  | outgrown=>exact hq.elim
 ·have fin:∀ (pan:Bool) (u:FrameMode),u≠.run→(pan=true→∃ ch,Jce ch∧u=.panicking ch)→(pan=false→u=.returning)→Jh6 P Gl fn.results.toList r pan s'→Leaves P fn a'.tmps (fun e w'=>∃ v g',e=.returned v∧g'.w=w'∧Bz S w r v g') a'.defers u g.w:=fun pan u hu hp hnp q=>by
   obtain ⟨f2,caps,fn2,c2,k1,k2,k3,k4,k5,k6,k7,k8⟩:=q
   rw [hg.defers]
   have hl:=hg.len
   have hl1:s'.tm.length=a'.tmps.size+1:=by rw [hl.1,k2]
   have hlast:s'.tm[a'.tmps.size]? = some (.fn f2 caps):=by
    rw [List.getLast?_eq_getElem?] at k1
    rwa [hl1,Nat.add_sub_cancel] at k1
   have hfr:=hg.tm a'.tmps.size _ (.func fv #[] cap) hlast (by
    show (a'.tmps.toList++[Value.func fv #[] cap])[a'.tmps.size]? = _
    rw [List.getElem?_append_right (by simp)]; simp)
   simp only [Rel,Qb,Kx] at hfr
   obtain ⟨arr,hfv,hcaps⟩:=hfr
   cases hfv
   have hne:fn2.name ≠ "runtime.NumGoroutine" := by simpa using k5
   have hbody:fn2.body≠none:=fun e=>by rw [e] at k6; cases k6
   refine leaves_cons (f:=f2) (args:=cap) hu (by simp [invoke,callFunc,run_program,k4,hne,hbody]) ?_
   have hall:Kv (Rel g) caps cap.toList:=⟨hcaps.1,fun i p v hp hv=>by
    have hpv:=hcaps.2 i p v hp hv
    have h2:=List.all_eq_true.1 k3 p (List.mem_of_getElem? hp)
    cases p <;> simp only [Bh] at h2 <;> try cases h2
    all_goals exact hpv⟩
   refine CallsD.mono (callsD_of_wpS (R:=fun e u' w'=>∃ v,e=.returned v∧Go.settle u'=.returning∧Leaves P fn a'.tmps (fun e w'=>∃ v g',e=.returned v∧g'.w=w'∧Bz S w r v g') [] .returning w') k4 k6 fun c₀ cs hu=>?_) ?_
   ·have hsz2:caps.length=cap.size:=by rw [hall.1]; simp
    have hinit2:Inv Gl ⟨S,fun _ _=>False,fun _ _ _=>False,a'.tmps.toList++[Value.func (.func f2) #[] cap],[]⟩ w (Gt fn2.ntmps caps s') { tmps:=cap++Array.replicate (fn2.ntmps - cap.size) undef,defers:=[] } g.w:=by
     refine ⟨g,rfl,{ hg with defers:=rfl,len:=⟨?_, ?_⟩,tm:=fun i p v hp hv=>?_ }⟩
     ·simp only [Gt,List.length_append,List.length_replicate,Array.size_append,Array.size_replicate,hsz2]
     ·show (a'.tmps.toList++[Value.func (.func f2) #[] cap]).length=s'.tm.length
      rw [List.length_append,Array.length_toList]; simp only [List.length_singleton]; omega
     ·simp only [Gt] at hp
      have hl2:(caps++List.replicate (fn2.ntmps - caps.length) PV.any).length=(cap++Array.replicate (fn2.ntmps - cap.size) undef).toList.length:=by
       simp [hsz2]
      rw [List.getElem?_append] at hp
      have hv:((cap++Array.replicate (fn2.ntmps - cap.size) undef).toList++(a'.tmps.toList++[Value.func (.func f2) #[] cap]))[i]? = some v:=hv
      rw [List.getElem?_append,← hl2] at hv
      by_cases hi:i<(caps++List.replicate (fn2.ntmps - caps.length) PV.any).length
      ·rw [if_pos hi] at hp hv
       rw [List.getElem?_append] at hp
       by_cases hi2:i<caps.length
       ·rw [if_pos hi2] at hp
        rw [Array.toList_append,List.getElem?_append_left (by rw [← hall.1]; exact hi2)] at hv
        exact hall.2 i p v hp hv
       ·rw [if_neg hi2,List.getElem?_replicate] at hp
        split at hp
        ·cases hp; trivial
        ·cases hp
      ·rw [if_neg hi] at hp hv
       exact hg.tm _ p v hp hv
    refine Jps (k8 _ w _ g.w c₀ cs hinit2 (fun e=>by rw [hu]; exact hp e) (fun e=>by rw [hu]; exact hnp e)) ?_
    rintro e3 a3 cs3 w3 ⟨⟨s3,hq3,g3,rfl,hg3⟩,u3,rfl,hset⟩
    have fin3:Ea P Gl fn.results.toList r { s3 with tm:=s3.tm.drop (s3.tm.length - s3.m),m:=1 }→a3.defers=[]∧∃ u',({ c₀ with mode:=u3 }:Frame)::cs={ c₀ with mode:=u' }::cs∧∃ v,(results fn2 a3.tmps).run P g3.w=.ok v g3.w∧∃ v2,Ending.returned v=.returned v2∧Go.settle u'=.returning∧Leaves P fn a'.tmps (fun e w'=>∃ v g',e=.returned v∧g'.w=w'∧Bz S w r v g') [] .returning g3.w:=fun q=>by
     have hl3:=hg3.len
     have hm3:s3.m=a'.tmps.size+1:=by
      have e:(a'.tmps.toList++[Value.func (.func f2) #[] cap]).length=s3.m:=hl3.2
      rw [List.length_append,Array.length_toList] at e
      simp only [List.length_singleton] at e; omega
     have hbase:Kw Gl ⟨S,fun _ _=>False,fun _ _ _=>False,[Value.func (.func f2) #[] cap],[]⟩ w { s3 with tm:=s3.tm.drop (s3.tm.length - s3.m),m:=1 } { tmps:=a'.tmps,defers:=[] } g3:=by
      refine { hg3 with defers:=rfl,len:=⟨?_,rfl⟩,tm:=fun i p v hp hv=>?_ }
      ·show (s3.tm.drop (s3.tm.length - s3.m)).length=a'.tmps.size+1
       rw [List.length_drop]; omega
      ·have hp:(s3.tm.drop (s3.tm.length - s3.m))[i]? = some p:=hp
       rw [List.getElem?_drop] at hp
       refine hg3.tm _ p v hp ?_
       show (a3.tmps.toList++(a'.tmps.toList++[Value.func (.func f2) #[] cap]))[_]? = some v
       have e:s3.tm.length - s3.m=a3.tmps.toList.length:=by rw [Array.length_toList]; omega
       rw [e,List.getElem?_append_right (by omega),Nat.add_sub_cancel_left]
       exact hv
     refine ⟨hg3.defers,u3,rfl,.tuple #[], ?_,_,rfl,hset,Mc (a':={ tmps:=a'.tmps,defers:=[] }) hbase q⟩
     rw [Bw,Array.mapM_eq_mapM_toList,k7]
     simp
    cases e3 with
    | normal=>exact fin3 hq3
    | ret=>exact fin3 hq3
    | exit id=>exact hq3.elim
    | goto l=>exact hq3.elim
    | panic ch=>exact hq3.elim
    | outgrown=>exact hq3.elim
   ·rintro e3 u3 w3 ⟨v3,rfl,hset,hL⟩
    show Leaves _ _ _ _ [] (Go.settle u3) w3
    rw [hset]; exact hL
  cases e with
  | normal=>exact fin false .returning (by simp) (fun e=>by cases e) (fun _=>rfl) hq
  | ret=>exact fin false .returning (by simp) (fun e=>by cases e) (fun _=>rfl) hq
  | exit id=>exact hq.elim
  | goto l=>exact hq.elim
  | panic ch=>exact fin true (.panicking ch) (by simp) (fun _=>⟨ch,hq.1,rfl⟩) (fun e=>by cases e) hq.2
  | outgrown=>exact hq.elim
/-- The body's ways out: the closure's body. -/
theorem Joj {f n:Nat} {caps:List PV} {fn:Func} {c:Code} {rs:List ResultVar} {r:PV} {pan:Bool} (h:(s.tm.getLast?,s.m,caps.all Bh)=(some (.fn f caps),1,true)) (hf:P.funcs[f]? = some fn) (hname:(fn.name == "runtime.NumGoroutine")=false) (hb:fn.body=some c)
  (hn:fn.ntmps=n) (hres:fn.results.toList=[]) (h2:Jv4 P Gl pan c (Jfg P Gl rs r) (Gt n caps s)):Jh6 P Gl rs r pan s:=by
 subst hn
 simp only [Prod.mk.injEq] at h
 exact ⟨f,caps,fn,c,h.1,h.2.1,h.2.2,hf,hname,hb,hres,h2⟩
theorem Juj {rs:List ResultVar} {r:PV} (h:Jh6 P Gl rs r false s):Jrc P Gl rs r .ret s:=h
theorem Jy7 {rs:List ResultVar} {r:PV} {ch:List PanicEntry} (hc:Jce ch) (h:Jh6 P Gl rs r true s):Jrc P Gl rs r (.panic ch) s:=⟨hc,h⟩
end
end PM
