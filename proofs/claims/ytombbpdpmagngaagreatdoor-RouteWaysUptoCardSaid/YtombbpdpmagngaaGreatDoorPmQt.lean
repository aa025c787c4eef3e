/-
 THE PURE MACHINE, Qt: a region that draws its order, all orders walked.
-/
import Derived.Test.YtombbpdpmagngaaGreatDoorPmQh
import Derived.Scope
namespace PM
open Go Go.RowKit
section
variable {P:Program} {Gl:Nat→Option (List PV)} {s:PSt} {ops:Array Oper} {Q:PSt→Prop} {n:Nat} {listed:Array Bool}
def Jsn (f:Nat→Prop):List Nat→Prop
 | []=>True
 | i::r=>f i∧Jsn f r
theorem Jki {f:Nat→Prop}:∀ {l:List Nat},Jsn f l→∀ i∈l,f i
 | [],_,i,h=>by cases h
 | j::r,h,i,hi=>by
  rcases List.mem_cons.1 hi with rfl|hi
  ·exact h.1
  ·exact Jki h.2 i hi
end
/-! ### A region that draws its order: runs of operations that touch nothing in common with those that may still come; else all orders -/
section
variable {P:Program} {Gl:Nat→Option (List PV)} {s:PSt} {ops:Array Oper} {Q:PSt→Prop}
def Jlp : List Nat→Array Bool→Array Bool
 | [],l=>l
 | i::is,l=>Jlp is (l.setIfInBounds i true)
theorem Uu {Ls:List (Oper×Gd)} {d:Bool} (h:Ls.isEmpty=true) (hq:Q s):Kp P Gl d Ls s Q:=by
 cases Ls with
 | nil=>exact hq
 | cons x l=>simp at h
end
/-! ### A scope with one label at its head: jumps back to it -/
section
variable {P:Program} {Gl:Nat→Option (List PV)} {s:PSt}
def Jwq (I:Nat→PSt→Prop) (n l:Nat) (Q:Exit→PSt→Prop):Exit→PSt→Prop
 | .goto l',s=>l'=l∧∃ m s',m<n∧I m s'∧Tf s s'
 | e,s=>Q e s
theorem Jrr {B:Code} {l:Nat} {Q:Exit→PSt→Prop} (I:Nat→PSt→Prop) (n:Nat) {s':PSt} (h0:I n s') (hw:Tf s s') (hr:∀ n s,I n s→pwp P Gl B (Jwq I n l Q) s):pwp P Gl (.scope (.seq (.label l) B)) Q s:=by
 intro S0 w0 a w hi
 have hg:∀ k,gotoIn l (.inScope (.seq (.label l) B)::k)=some (.code (.seq .skip B)::.inScope (.seq (.label l) B)::k):=fun k=>by simp [gotoIn,findLabel]
 have key:∀ n (a:Act) (w:World),(∃ s,I n s∧Inv Gl S0 w0 s a w)→∀ (b:Frame) (k:List Item) (cs:List Frame),
   ∃ e a' w',(∃ s',Q e s'∧Inv Gl S0 w0 s' a' w')∧Arrives P (lone (b.at a (.code B::.inScope (.seq (.label l) B)::k)) cs w) b k cs e a' w':=by
  intro n
  induction n using Nat.strongRecOn with
  | _ n ih =>
   rintro a w ⟨s,hI,hi⟩ b k cs
   obtain ⟨e,a1,w1,⟨s1,hq,hi1⟩,harr⟩:=hr n s hI S0 w0 a w hi b (.inScope (.seq (.label l) B)::k) cs
   cases e with
   | normal=>exact ⟨.normal,a1,w1,⟨s1,hq,hi1⟩,Steps.trans harr (.one step_inScope)⟩
   | exit id=>exact ⟨.exit id,a1,w1,⟨s1,hq,hi1⟩,fun k' hk=>harr k' (by simp [exitTo,hk])⟩
   | goto l' =>
    obtain ⟨rfl,m,s2,hm,hI2,hw2⟩:=hq
    obtain ⟨e2,a2,w2,hq2,harr2⟩:=ih m hm a1 w1 ⟨s2,hI2,hi1.weak hw2⟩ b k cs
    exact ⟨e2,a2,w2,hq2,.of_steps (Steps.trans (harr _ (hg k)) (.head step_seq (.one step_skip))) harr2⟩
   | ret=>exact ⟨_,a1,w1,⟨s1,hq,hi1⟩,harr⟩
   | panic ch=>exact ⟨_,a1,w1,⟨s1,hq,hi1⟩,harr⟩
   | outgrown=>exact ⟨_,a1,w1,⟨s1,hq,hi1⟩,harr⟩
 intro b k cs
 obtain ⟨e,a',w',hq,harr⟩:=key n a w ⟨s',h0,hi.weak hw⟩ b k cs
 exact ⟨e,a',w',hq,.of_steps (.head step_scope (.head step_seq (.one step_label))) harr⟩
theorem Jts {l:Nat} {Q:Exit→PSt→Prop} (h:Q (.goto l) s):pwp P Gl (.goto l) Q s:=fun _ _ _ _ hi=>wp_goto ⟨s,h,hi⟩
theorem Jhr {y:Code} {k:Nat} {Q:Exit→PSt→Prop} (h:Q (.goto k) s):Jtp P Gl y Q (.goto k) s:=h
variable {α β σ:Type} {n l k:Nat} {J:σ→JS} {J0:α→JS} {Q:Exit→PSt→Prop} {v':σ} {v:α} {b:β} {r:α⊕β}
def Jbh (J:σ→JS) (J0:α→JS) (n l:Nat) (Q:Exit→PSt→Prop) (r:α⊕β) (o:σ⊕(α⊕β)) (e:Exit) (s':PSt):Prop :=
 match o with
 | .inl v'=>e=.goto l∧(J v').seen s'=(J v').told n
 | .inr (.inl v)=>e=.normal∧Wkr s' ((J0 v).st n)
 | .inr (.inr b)=>.inr b=r→e≠.normal∧(∀ k,e≠.goto k)∧Q e s'
theorem Juv (h:(J v').seen s=(J v').told n):Jbh J J0 n l Q r (.inl v') (.goto l) s:=⟨rfl,h⟩
theorem Jrn {s':PSt} (hs:Wkr s' s) (hok:(J0 v).ok=true) (h:(J0 v).seen s=(J0 v).told n):Jbh J J0 n l Q r (.inr (.inl v)) .normal s':=⟨rfl,hs.trans (.of hok h)⟩
theorem Jiw (h:.inr b=r→Q .ret s):Jbh J J0 n l Q r (.inr (.inr b)) .ret s:=fun e=>⟨by simp,by simp,h e⟩
theorem Ju7 {step:σ→Option (σ⊕(α⊕β))} {v:σ} {B:Code} (n l:Nat) (J:σ→JS) (J0:α→JS) (hl:Kl step v=some r) (h0:(J v).seen s=(J v).told n) (hok:∀ v,(J v).ok=true)
  (hb:∀ v o,step v=some o→pwp P Gl B (Jbh J J0 n l Q r o) ((J v).st n)) (h2:∀ v s',r=.inl v→Wkr s' ((J0 v).st n)→Q .normal s'):pwp P Gl (.scope (.seq (.label l) B)) Q s:=by
 obtain ⟨m,hm⟩:=Jho.1 hl
 refine Jrr (fun m s=>∃ v,Tz step m v r∧s=(J v).st n) m ⟨v,hm,rfl⟩ (JS.weaker (hok v) h0) ?_
 rintro m _ ⟨v,hv,rfl⟩
 cases hv with
 | done h1 =>
  refine Ry (fun e s' hp=>?_) (hb v _ h1)
  rcases r with x|x
  ·obtain ⟨rfl,h3⟩:=hp
   exact h2 x s' rfl h3
  ·obtain ⟨h3,h4,h5⟩:=hp rfl
   cases e <;> first|exact absurd rfl h3|exact absurd rfl (h4 _)|exact h5
 | more h1 h2 =>
  refine Ry (fun e s' hp=>?_) (hb v _ h1)
  obtain ⟨rfl,h3⟩:=hp
  exact ⟨rfl,_,_,Nat.lt_succ_self _,⟨_,h2,rfl⟩,JS.weaker (hok _) h3⟩
end
/-! ### A key is taken out of a map -/
section
variable {κ ν:Type} [Key κ] [Enc ν] {P:Program} {Gl:Nat→Option (List PV)} {s:PSt} {Ls:List (Oper×Gd)} {Q:PSt→Prop}
end
/-! ### The end of a function that changes a list in place, behind a loop -/
section
variable {P:Program} {Gl:Nat→Option (List PV)} {s:PSt}
theorem Jmp {c:Code} {Q:Exit→PSt→Prop} (h:pwp P Gl c (fun e s1=>∃ s,Wkr s1 s∧Q e s) s):pwp P Gl c Q s :=
 fun S0 w0 a w hi=>Pt (fun _ _ _ ⟨_,⟨s,hw,q⟩,i⟩=>⟨s,q,hw _ _ _ _ _ i⟩) (h S0 w0 a w hi)
def Jqn (P:Program) (Gl:Nat→Option (List PV)) (rs:List ResultVar) (k b N:Nat) (m:Option Nat) (xss':List (List PV)) (e:Exit) (s1:PSt):Prop:=∃ s,Wkr s1 s∧Jtd P Gl rs k b N m xss' e s
theorem Jlg {rs:List ResultVar} {k b N:Nat} {m:Option Nat} {xss':List (List PV)} (h:(s.X T0,s.T T0,Pl P Gl s rs)=(some (k,b,xss'),some (N,0),some (match m with|none=>[]|some m'=>[.ex T0 k b N 0 m']))):Jqn P Gl rs k b N m xss' .ret s:=⟨s,fun _ _ _ _ _ hi=>hi,h⟩
theorem Jjm {f:FuncId} {fn:Func} {c:Code} {args:List PV} {k b n:Nat} {xss xss':List (List PV)} {m:Option Nat} {rs:List ResultVar} (hf:P.funcs[f]? = some fn) (hname:(fn.name == "runtime.NumGoroutine")=false) (hb:fn.body=some c)
  (hn:fn.ntmps=n) (hrs:fn.results.toList=rs) (hflat:args.all Lr=true) (h:pwp P Gl c (Jqn P Gl rs k b xss.length m xss') (Jsq k b xss args n)):Jfq P Gl f k b xss args m xss' :=
 Jle hf hname hb hn hrs hflat (Jmp h)
end
end PM
