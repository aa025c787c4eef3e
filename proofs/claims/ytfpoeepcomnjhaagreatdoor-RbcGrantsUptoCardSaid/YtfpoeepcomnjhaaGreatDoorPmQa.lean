/-
 THE PURE MACHINE, Qa: a region that draws its order: operations on slots alone go first, all orders of the others are walked (they may be of any kind).
-/
import Derived.Test.YtfpoeepcomnjhaaGreatDoorPmQt
namespace PM
open Go Go.RowKit
section
variable {P:Program} {ops:Array Oper} {md:Region.Mode} {Q Q':Exit->Act->World->Prop}
theorem Kl8{o:Oper}{a:Act}{w:World}{K K':Act->World->Prop}(hQ:∀ e a w,Q e a w->e=.normal)(h:∀ a w,K a w->K' a w)(hh:o.wp P a w K Q):o.wp P a w K' Q':=by
 unfold Oper.wp at *;generalize (execOp a.eval o).run P w=r at *;cases r with
 | ok n w' =>
  cases n <;> simp only [Oper.upon] at hh ⊢ <;>
   first
    | exact h _ _ hh
    | exact Calls.mono hh (fun e w'' he=>by
      cases e
      ·exact h _ _ he
      ·exact absurd (hQ _ _ _ he) sG
      ·obtain ⟨a1,w1,q⟩:=he; exact absurd (hQ _ _ _ q) sG)
    | exact Rows.mono hh (fun _ _ he=>h _ _ he)
 | halt x w'=>cases x <;> simp only [Oper.upon] at hh ⊢ <;> first|exact hh.elim|exact absurd (hQ _ _ _ hh) sG|exact hh
theorem Jkl(hQ:∀ e a w,Q e a w->e=.normal)(hn:∀ a w,Q .normal a w->Q' .normal a w):∀ (fuel:Nat) (listed:Array Bool) (a:Act) (w:World),wpAny P md ops Q fuel listed a w->wpAny P md ops Q' fuel listed a w
 | 0,_,_,_,h=>⟨h.1,hn _ _ h.2⟩
 | fuel+1,listed,a,w,h=>by
  refine ⟨fun e=>hn _ _ (h.1 e),fun i hi=>?_⟩;have:=h.2 i hi;unfold wpOp at this ⊢;split
  ·rename_i e; simp only [e] at this; exact Jkl hQ hn fuel _ _ _ this
  ·rename_i o e;simp only [e] at this;split
   ·rename_i hw;rw [if_pos hw] at this;rcases this with q|⟨_,a1,w1,q⟩
    ·exact .inl (Kl8 hQ (fun a w=>Jkl hQ hn fuel _ a w) q)
    ·exact absurd (hQ _ _ _ q) sG
   ·rename_i hw;rw [if_neg hw] at this;exact Jkl hQ hn fuel _ _ _ this
end
section
variable {P:Program} {Gl:GL} {s:PSt} {ops:Array Oper} {Q:PSt->Prop} {n:Nat} {listed:Array Bool}
def QN(Gl:GL)(S0:Bs)(w0:World)(Q:PSt->Prop):Exit->Act->World->Prop:=fun e a w=>e=.normal/\∃ s,Q s/\Inv Gl S0 w0 s a w
def pS(P:Program)(Gl:GL)(ops:Array Oper)(Q:PSt->Prop)(n:Nat)(listed:Array Bool)(s:PSt):Prop :=
 ∀ (S0:Bs) (w0:World) (a:Act) (w:World),Inv Gl S0 w0 s a w->wpAny P .any ops (QN Gl S0 w0 Q) n listed a w
theorem Oa{m:Nat}(h:((Region.ready .any ops listed).isEmpty&&(m == 0))=true)(hq:Q s):pS P Gl ops Q m listed s:=by
 simp only [aI,beq_iff_eq] at h;rw [h.2];exact fun S0 w0 a w hi=>⟨by simpa using h.1,rfl,s,hq,hi⟩
theorem Ut{m:Nat}(is:List Nat)(h:(Region.ready .any ops listed,is.isEmpty,m == n+1)=(is,false,true))(hk:Jwq (fun i=>∃ o,ops[i]? = some o/\Jy P Gl false [(o,Jd0 ops o)] s (pS P Gl ops Q n (listed.setIfInBounds i true))) is):pS P Gl ops Q m listed s:=by
 simp only [aM,beq_iff_eq] at h;obtain ⟨h1,h2,rfl⟩:=h;intro S0 w0 a w hi;refine ⟨fun e=>?_,fun i hir=>?_⟩
 ·rw [h1] at e; subst e; cases h2
 ·rw [h1] at hir;obtain ⟨o,ho,hp⟩:=Jhl hk i hir;unfold wpOp;simp only [ho];obtain ⟨g,rfl,hg⟩:=hi;simp only [Jy] at hp;rcases Jbe hg hp with ⟨e1,e2⟩|⟨e1,e2⟩
  ·rw [if_pos e1];exact .inl (Si hg e2 fun s' a' w' hs' hi'=>hs' S0 w0 a' w' hi')
  ·rw [if_neg (by rw [e1]; simp)];exact e2 S0 w0 _ _ ⟨g,rfl,hg.put _ (Rel.und _)⟩
def Juk : Op->Bool
 | .move _|.assign _|.nilCheck _|.fieldAddr _ _ _|.extract _ _=>true
 | _=>false
theorem Jn3{g:GG}{t:TypeId}{f:Nat}{p r:PV}{v:Value}(h:Xx P t f p=some r)(hv:Rel g p v):∃ z,(∀ w,(Instr.fieldAt t v f).run P w=.ok z w)/\Rel g r z:=by
 cases p <;> simp only [Xx] at h <;> try cases h
 case ref l o=>
  split at h
  ·rename_i off x n hk
   by_cases hn:n=0
   ·rw [if_pos hn] at h; cases h
   ·rw [if_neg hn] at h; cases h;rw [Oh] at hv;obtain ⟨rfl,hl⟩:=hv;exact ⟨_,fun _=>Fb hk hn _ _,Oh.2 ⟨rfl,hl⟩⟩
  ·cases h
 case cptr cs=>
  split at h
  ·rename_i off x n hk
   by_cases hn:n=0
   ·rw [if_pos hn] at h; cases h
   ·rw [if_neg hn] at h; cases h;rw [Sk] at hv;obtain ⟨B,o,rfl,hc⟩:=hv;exact ⟨_,fun _=>Fb hk hn _ _,Sk.2 ⟨B,o+off,rfl,hc.drop off⟩⟩
  ·cases h
 case eref tk k N j o=>
  split at h
  ·rename_i off x n hk
   by_cases hn:n=0
   ·rw [if_pos hn] at h; cases h
   ·rw [if_neg hn] at h; cases h;simp only [Rel,Ks,Kk] at hv;obtain ⟨⟨B,q,rfl⟩,N',h1,h2,h3⟩:=hv;refine ⟨_,fun _=>Fb hk hn _ _,⟨⟨B,_,rfl⟩,N',h1,h2,fun e=>?_⟩⟩;obtain ⟨B',cap,e1,e2⟩:=h3 e;cases e2;exact ⟨B,cap,e1,by rw [Nat.add_assoc]⟩
  ·cases h
 case gptr i o=>
  split at h
  ·rename_i off x n hk
   by_cases hn:n=0
   ·rw [if_pos hn] at h; cases h
   ·rw [if_neg hn] at h; cases h;rw [Tn] at hv;subst hv;exact ⟨_,fun _=>Fb hk hn _ _,Tn.2 rfl⟩
  ·cases h
theorem Kgu{S0:Bs}{w0:World}{a:Act}{g:GG}(h:Kh Gl S0 w0 s a g)(o:Oper){r:PV}(hs:Juk o.op=true)(he:ev1 P Gl o.op s.ev s.H s.X=some r) :
  ∃ z,(∀ w,(execOp a.eval o).run P w=.ok (.value z) w)/\Rel g r z:=by
 obtain ⟨dst,op,type,pos,after,guard⟩:=o;cases op <;> simp only [Juk] at hs <;> try cases hs
 case move x=>simp only [ev1] at he; cases he; exact ⟨_,fun _=>rfl,h.ev x⟩
 case assign x=>simp only [ev1] at he; cases he; exact ⟨_,fun _=>rfl,h.ev x⟩
 case nilCheck x=>
  simp only [ev1] at he;have hx:=h.ev x;split at he
  ·rename_i l o hl;rw [hl] at hx; cases he;have hx':=hx;rw [Oh] at hx;exact ⟨a.eval x,fun w=>by simp [execOp,hx.1],hx'⟩
  ·rename_i cs hl;rw [hl] at hx; cases he;have hx':=hx;rw [Sk] at hx;obtain ⟨B,o,e,_⟩:=hx;exact ⟨a.eval x,fun w=>by simp [execOp,e],hx'⟩
  ·rename_i i o hl;rw [hl] at hx; cases he;have hx':=hx;rw [Tn] at hx;exact ⟨a.eval x,fun w=>by simp [execOp,hx],hx'⟩
  ·rename_i f caps hl;rw [hl] at hx; cases he;have hx':=hx;simp only [Rel,Ks,Kk] at hx;obtain ⟨arr,e,_⟩:=hx;exact ⟨a.eval x,fun w=>by simp [execOp,e],hx'⟩
  ·rename_i t k N j o hl;rw [hl] at hx; cases he;have hx':=hx;simp only [Rel,Ks,Kk] at hx;obtain ⟨⟨B,o',e⟩,_⟩:=hx;exact ⟨a.eval x,fun w=>by simp [execOp,e],hx'⟩
  ·cases he
 case fieldAddr t x f=>
  simp only [ev1] at he;obtain ⟨z,hz,hr⟩:=Jn3 he (h.ev x);exact ⟨z,fun w=>by simp [execOp,hz w],hr⟩
 case extract x i=>
  simp only [ev1] at he;have hx:=h.ev x;split at he
  ·rename_i vs hvs;rw [hvs] at hx;simp only [Rel] at hx;obtain ⟨arr,e,hr⟩:=hx;obtain ⟨z,hz1,hz2⟩:=hr.right he;refine ⟨z,fun w=>?_, ?_⟩
   ·simp only [execOp,e,Instr.extract]; rw [show arr[i]? = some z by simpa using hz1]; rfl
   ·cases r
    case tup vs=>exact hz2.elim
    all_goals exact hz2
  ·cases he
def Jis(P:Program)(Gl:GL)(ops:Array Oper):List Nat->Array Bool->PSt->PSt×Bool
 | [],_,s=>(s,true)
 | i::is,l,s=>match ops[i]? with
  | none=>(s,false)
  | some o=>match o.guard with
   | some _=>(s,false)
   | none=>match ev1 P Gl o.op s.ev s.H s.X with
    | none=>(s,false)
    | some r=>match Juk o.op&&Region.free .any ops l i&&(Region.ready .any ops l).contains i with
     | false=>(s,false)
     | true=>Jis P Gl ops is (l.setIfInBounds i true) (s.put o.dst r)
theorem Jsi(hsel:Region.noSelect ops=true)(n:Nat):∀ (is:List Nat) (listed:Array Bool) (s:PSt),(Jis P Gl ops is listed s).2=true->pS P Gl ops Q n (Jev is listed) (Jis P Gl ops is listed s).1->pS P Gl ops Q (is.length+n) listed s
 | [],listed,s,_,h=>by simpa [Jev,Jis] using h
 | i::is,listed,s,hB,h=>by
  unfold Jis at hB h;cases ho:ops[i]? with
  | none=>simp [ho] at hB
  | some o=>
   simp only [ho] at hB h;cases hg:o.guard with
   | some q=>simp [hg] at hB
   | none=>
    simp only [hg] at hB h;cases hv:ev1 P Gl o.op s.ev s.H s.X with
    | none=>simp [hv] at hB
    | some r=>
     simp only [hv] at hB h;cases hc:Juk o.op&&Region.free .any ops listed i&&(Region.ready .any ops listed).contains i with
     | false=>rw [hc] at hB; cases hB
     | true=>
      rw [hc] at hB h;simp only [aI] at hc;obtain ⟨⟨c1,c2⟩,c3⟩:=hc;rw [show (i::is).length+n=(is.length+n)+1 by simp; omega];have ih:=Jsi hsel n is (listed.setIfInBounds i true) (s.put o.dst r) hB h;intro S0 w0 a w hi;obtain ⟨g,rfl,hi⟩:=hi;obtain ⟨z,hz,hrel⟩:=Kgu hi o c1 hv;refine wpAny_take (v:=z) ho hsel c2 c3 (fun c a w q=>by cases q.1) (.inl ⟨?_,hz⟩) (ih S0 w0 _ _ ⟨g,rfl,hi.put _ hrel⟩);unfold Region.wanted; rw [hg]
theorem Ys{m:Nat}(is:List Nat)(n:Nat)(h:((Jis P Gl ops is listed s).2&&(m == is.length+n)&&Region.noSelect ops)=true)(hk:pS P Gl ops Q n (Jev is listed) (Jis P Gl ops is listed s).1):pS P Gl ops Q m listed s:=by
 simp only [aI,beq_iff_eq] at h;rw [h.1.2]; exact Jsi h.2 n is listed s h.1.1 hk
theorem Kl2{Q:Exit->PSt->Prop}{id:Nat}(n:Nat)(J:JS)(hm:P.follows .mixedOrders=true)(h:pS P Gl ops (fun s'=>Wkr s' (J.st n)) ops.size (Array.replicate ops.size false) s)(hk:Q .normal (J.st n)):pwp P Gl (.region id ops true) Q s:=by
 intro S0 w0 a w hi;obtain ⟨g,rfl,hg⟩:=hi;refine wp_region_any hm (Jkl (Q:=QN Gl S0 w0 _) (fun e a w q=>q.1) (fun a w q=>?_) _ _ _ _ (h S0 w0 a _ ⟨_,rfl,hg.drew.1⟩));obtain ⟨_,s',h1,h2⟩:=q;exact ⟨_,hk,h1 Gl S0 w0 a w h2⟩
end
end PM
