import Derived.Test.YtfpoeepcomnjhaaGreatDoorPmN
import Derived.Still
/-
 THE PURE MACHINE, V: typed values (Enc), and the rules for elements, lengths and appends.
-/
namespace PM
open Go Go.RowKit
class Enc (α:Type) where
 k:Nat
 b:Nat
 pv:α->PV
def cellsOf{α:Type}[Enc α](x:α):List PV:=(Enc.pv x).cells
instance : Enc Int:=⟨1,8,fun n=>.int .i64 n⟩
instance : Enc Bool:=⟨1,1,fun b=>.bool b⟩
instance : Enc ByteArray:=⟨1,16,fun s=>.str s⟩
def Ji{α:Type}[Enc α](o:Own)(l:List α):PV:=.lst o (Enc.k α) (Enc.b α) (l.map cellsOf)
instance {α:Type}[Enc α]:Enc (List α):=⟨1,24,fun l=>Ji .frozen l⟩
section
variable {α:Type}
def ixO(L:List α)(i:Int):Option α:=if 0<=i then L[i.toNat]? else none
def Kbe(k:Nat)(xss:List (List PV))(n:Int):Option (PV×Eff):=(if k=k/\0<=n then (xss[n.toNat]?).map PV.cptr else none).map fun v=>(v,Eff.none)
def Qi[Enc α](L ys:List α):Option (List α):=if (L.length+ys.length) * Enc.b α<=Js/\L.length+ys.length<=Js then some (L++ys) else none
variable {P:Program} {Gl:GL} {s:PSt} {d:Bool} {Ls:List (Oper×Gd)} {Q:PSt->Prop} [Enc α]
theorem p_ix{L:List α}{i:Int}{y:α}(hy:ixO L i=some y)(h:Nb P Gl Ls s=Kbe (Enc.k α) (L.map cellsOf) i)(h2:Jy P Gl d (Ls.drop 1) (s.put (Uk Ls) (.cptr (cellsOf y))) Q):Jy P Gl d Ls s Q:=by
 refine Cu (v:=.cptr (cellsOf y)) (e:=.none) ?_ h2;rw [h];unfold ixO at hy;unfold Kbe;split at hy
 ·rename_i h0;rw [if_pos ⟨rfl,h0⟩,aN,hy]; rfl
 ·cases hy
theorem Klk{L:List α}(h:Nb P Gl Ls s=some (.int .i64 ((L.map cellsOf).length:Nat),.none))(h2:Jy P Gl d (Ls.drop 1) (s.put (Uk Ls) (.int .i64 (L.length:Nat))) Q):Jy P Gl d Ls s Q:=by
 refine Cu (e:=.none) h ?_;rw [aV]; exact h2
def Jl7(P:Program):List (Oper×Gd)->PSt->Option (Nat×Bool×Nat×Nat×List (List PV)×List (List PV))
 | (o,.always)::_,s=>match o.op,o.dst with
  | .call c,some d=>match c.callee,c.args.toList,c.argTypes.toList with
   | .builtin .append,[x,y],[t,t']=>match Jhx P t,Rq P t' with
    | some (_,k,b),true=>match Kfb k (s.ev y) with
     | some yss=>match s.ev x with
      | .nil=>if (s.T d).isNone=true then some (d,true,k,b,[],yss) else none
      | .lst .full k' b' xss=>if k'=k/\b'=b/\(s.T d).isNone=true then some (d,true,k,b,xss,yss) else none
      | .lst (.own t) k' b' xss=>if k'=k/\b'=b then some (t,false,k,b,xss,yss) else none
      | _=>none
     | none=>none
    | _,_=>none
   | _,_,_=>none
  | _,_=>none
 | _,_=>none
theorem Jpj{tk k b:Nat}{new:Bool}{xss yss:List (List PV)}(h:Jl7 P Ls s=some (tk,new,k,b,xss,yss))(hT:new=false->s.T tk=some (xss.length,k))(hz:(xss.length+yss.length) * b<=Js/\xss.length+yss.length<=Js) :
  Nb P Gl Ls s=some (.lst (.own tk) k b (xss++yss),.tok tk (xss.length+yss.length) k):=by
 unfold Jl7 at h;split at h
 ·rename_i o rest;split at h
  ·rename_i c d hop hd;split at h
   ·rename_i x y t t' h1 h2 h3;split at h
    ·rename_i e k0 b0 hk ht';split at h
     ·rename_i yss0 hy;have hno:Vx (Op.call c)=none:=by simp [Vx,h1]
      have hev:∀ X,Jai P o.dst s.T t t' (s.ev x) (s.ev y)=X->Nb P Gl ((o,Gd.always)::rest) s=X:=by
       intro X hX;simp only [Nb,hop,hno,evO,Cg,h1,if_true,evE,h2,h3];exact hX
      apply hev;unfold Jai;simp only [hk,ht',hd,hy];split at h
      ·rename_i hx;split at h
       ·rename_i hTn;cases h;simp only [hx];have:s.T tk=none:=by simpa using hTn
        simp only [aF,aW] at hz;rw [if_pos this,if_pos hz];simp
       ·cases h
      ·rename_i k1 b1 xss1 hx;split at h
       ·rename_i hc;cases h;simp only [hx];obtain ⟨rfl,rfl,hTn⟩:=hc;have:s.T tk=none:=by simpa using hTn
        rw [if_pos ⟨rfl,rfl,this⟩,if_pos hz]
       ·cases h
      ·rename_i t1 k1 b1 xss1 hx;split at h
       ·rename_i hc;cases h;simp only [hx];obtain ⟨rfl,rfl⟩:=hc;rw [if_pos ⟨rfl,rfl,hT rfl⟩,if_pos hz]
       ·cases h
      ·cases h
     ·cases h
    ·cases h
   ·cases h
  ·cases h
 ·cases h
theorem Kjb{L ys M:List α}{tk:Nat}(hM:Qi L ys=some M)(hT:s.T tk=some ((L.map cellsOf).length,Enc.k α))(h:Jl7 P Ls s=some (tk,false,Enc.k α,Enc.b α,L.map cellsOf,ys.map cellsOf))(h2:Jy P Gl d (Ls.drop 1) (({ s with T:=upd s.T tk (some ((M.map cellsOf).length,Enc.k α)) }:PSt).put (Uk Ls) (Ji (.own tk) M)) Q):Jy P Gl d Ls s Q:=by
 unfold Qi at hM;split at hM
 ·rename_i hz;cases hM;have:=Jpj (Gl:=Gl) h (fun _=>by simpa using hT) (by simpa using hz);refine Cu this ?_
  simpa [Eff.app,Ji,cL] using h2
 ·cases hM
theorem Cr{L ys M:List α}{tk:Nat}(hM:Qi L ys=some M)(h:Jl7 P Ls s=some (tk,true,Enc.k α,Enc.b α,L.map cellsOf,ys.map cellsOf))(h2:Jy P Gl d (Ls.drop 1) (({ s with T:=upd s.T tk (some ((M.map cellsOf).length,Enc.k α)) }:PSt).put (Uk Ls) (Ji (.own tk) M)) Q):Jy P Gl d Ls s Q:=by
 unfold Qi at hM;split at hM
 ·rename_i hz;cases hM;have:=Jpj (Gl:=Gl) h (fun e=>by cases e) (by simpa using hz);refine Cu this ?_
  simpa [Eff.app,Ji,cL] using h2
 ·cases hM
end
section
variable {α β:Type}
theorem Ve{x:Option α}{f:α->Option β}{r:β}(h:x.bind f=some r):∃ a,x=some a/\f a=some r:=bF.1 h
theorem Jls{b:Bool}{x y:Option β}{r:β}(h:(bif b then x else y)=some r):(b=true/\x=some r)\/(b=false/\y=some r):=by
 cases b
 ·exact .inr ⟨rfl,h⟩
 ·exact .inl ⟨rfl,h⟩
theorem Kj9{a b x:Bool}(h:(a||b)=x):(a=true/\true=x)\/(a=false/\b=x):=by cases a <;> simp_all
theorem Jmp{a b x:Bool}(h:(a&&b)=x):(a=true/\b=x)\/(a=false/\false=x):=by cases a <;> simp_all
end
end PM
namespace PM
open Go Go.RowKit
inductive Cl where
 | pure|rd|ld|al|st|ms|ap|bad
 deriving DecidableEq
def Zv : Op->Cl
 | .move _|.assign _|.pick _ _ _|.nilCheck _|.binOp _ _ _ _ _|.unOp _ _ _|.convert _ _ _|.fieldAddr _ _ _|.field _ _ _|.indexAddr _ _ _|.index _ _ _|.extract _ _|.slice _ _ _ _ _|.build _ _|.makeFunc _ _ _|.buildSlice _ _ _=>.pure
 | .load _ _=>.ld
 | .lookup _ _ _ _=>.rd
 | .alloc _|.box _ _|.makeMap _ _=>.al
 | .store _ _ _=>.st
 | .mapUpdate _ _ _ _=>.ms
 | .call c=>match c.callee with
  | .value _=>.pure
  | .builtin .len=>.rd
  | .builtin .min|.builtin .max=>.pure
  | .builtin .append=>.ap
  | _=>.bad
 | .makeSlice _ _ _=>.ap
 | _=>.bad
def Jqi : Cl->Cl->Bool
 | .bad,_|_,.bad=>false
 | .pure,_|_,.pure=>true
 | .rd,.rd|.rd,.ld|.rd,.al|.rd,.ap=>true
 | .ld,.rd|.ld,.ld|.ld,.al|.ld,.ap|.ld,.ms=>true
 | .al,.al|.al,.ap=>true
 | .st,.al|.st,.ap=>true
 | .ms,.al|.ms,.ap=>true
 | .ap,.rd|.ap,.ld|.ap,.al|.ap,.st|.ap,.ms=>true
 | _,_=>false
def clR : Cl->Cl
 | .ld=>.rd
 | c=>c
def clS : Cl->Cl
 | .ms=>.st
 | c=>c
section
variable {P:Program} {Gl:GL} {H H':Nat->Option Ue} {T T':Nat->Option (Nat×Nat)} {X:XT} {ρ ρ':Operand->PV} {dst:Option Nat} {op:Op} {v:PV} {e:Eff}
theorem Jhh(h:∀ x∈op.operands,ρ x=ρ' x):evO P Gl dst op ρ H T X=evO P Gl dst op ρ' H T X:=by
 unfold evO;cases op <;> simp only [Cg,aQ,if_false,if_true,ev1,evE]
 case pick c x y=>simp only [Op.operands] at h; rw [h c sG,h x sG,h y sG]
 case move x=>simp only [Op.operands] at h; rw [h x sG]
 case assign x=>simp only [Op.operands] at h; rw [h x sG]
 case box t x=>simp only [Op.operands] at h; rw [h x sG]
 case nilCheck x=>simp only [Op.operands] at h; rw [h x sG]
 case unOp op t x=>simp only [Op.operands] at h; rw [h x sG]
 case convert a b x=>simp only [Op.operands] at h; rw [h x sG]
 case fieldAddr t x f=>simp only [Op.operands] at h; rw [h x sG]
 case field t x f=>simp only [Op.operands] at h; rw [h x sG]
 case load t x=>simp only [Op.operands] at h; rw [h x sG]
 case makeSlice t n c=>simp only [Op.operands] at h; rw [h n sG,h c sG]
 case lookup t x k ok=>simp only [Op.operands] at h; rw [h x sG,h k sG]
 case mapUpdate t m k x=>simp only [Op.operands] at h; rw [h m sG,h k sG,h x sG]
 case extract x i=>simp only [Op.operands] at h; rw [h x sG]
 case store t x y=>simp only [Op.operands] at h; rw [h x sG,h y sG]
 case binOp op t x y u=>simp only [Op.operands] at h; rw [h x sG,h y sG]
 case indexAddr t x y=>simp only [Op.operands] at h; rw [h x sG,h y sG]
 case index t x y=>simp only [Op.operands] at h; rw [h x sG,h y sG]
 case slice t x lo hi mx=>
  simp only [Op.operands] at h;rw [h x sG];have e:∀ y:Option Operand,(∀ z∈y,ρ z=ρ' z)->y.map ρ=y.map ρ':=fun y hy=>by
   cases y with
   | none=>rfl
   | some z=>simp [hy z rfl]
  rw [e lo (fun z hz=>h z (by simp at hz; subst hz; simp)),e hi (fun z hz=>h z (by simp at hz; subst hz; simp)),e mx (fun z hz=>h z (by simp at hz; subst hz; simp))]
 case build t ps=>
  simp only [Op.operands] at h;have:ps.toList.map (fun x=>(x.1,ρ x.2))=ps.toList.map (fun x=>(x.1,ρ' x.2)):=fA fun x hx=>by
   rw [h x.2 (by simp; exact ⟨x.1,by simpa using hx⟩)]
  rw [this]
 case buildSlice t n ps=>
  simp only [Op.operands] at h;have:ps.toList.map (fun x=>(x.1,ρ x.2))=ps.toList.map (fun x=>(x.1,ρ' x.2)):=fA fun x hx=>by
   rw [h x.2 (by simp; exact ⟨x.1,by simpa using hx⟩)]
  rw [this]
 case makeFunc fn first caps=>
  simp only [Op.operands] at h;have:caps.toList.map ρ=caps.toList.map ρ':=fA fun x hx=>h x (by simp; exact .inr (by simpa using hx));cases fn <;> simp only [this]
 case call c=>
  simp only [Op.operands,Call.operands] at h;have hargs:∀ x∈c.args.toList,ρ x=ρ' x:=fun x hx=>h x (by simp; exact .inr (by simpa using hx));obtain ⟨cal,args,tys⟩:=c;cases cal with
  | value f=>simp only [aQ,if_false]
  | invoke r m=>simp only [aQ,if_false]
  | builtin b=>
   cases b <;> simp only [aQ,if_false,if_true]
   all_goals
    (split
     all_goals first
      | rfl
      | (rename_i x y _ h2; rw [hargs x (by rw [h2]; simp),hargs y (by rw [h2]; simp)]; done)
      | (rename_i x y h2; rw [hargs x (by rw [h2]; simp),hargs y (by rw [h2]; simp)]; done)
      | (rename_i x _ _ h2 _; rw [hargs x (by rw [h2]; simp)]; done)
      | (rename_i x y _ _ _ h2 _; rw [hargs x (by rw [h2]; simp),hargs y (by rw [h2]; simp)]; done))
theorem Kfs(hc:Zv op=.pure)(h:evO P Gl dst op ρ H T X=some (v,e)):e=.none/\∀ H' T' X',evO P Gl dst op ρ H' T' X'=some (v,e):=by
 unfold evO at h ⊢;cases op <;> simp only [Zv] at hc <;> try cases hc
 case buildSlice.intro t n ps=>
  simp only [Cg,if_true,evE] at h ⊢;split at h
  ·rename_i e k b xss h1 h2;split at h
   ·rename_i h3;cases h;exact ⟨rfl,fun H' T' X'=>by rw [if_pos h3]⟩
   ·cases h
  ·cases h
 case call c=>
  obtain ⟨cal,args,tys⟩:=c;cases cal with
  | value f=>simp [Cg,ev1] at h
  | invoke r m=>cases hc
  | builtin b=>
   cases b <;> try cases hc
   all_goals
    (simp only [Cg,aQ,if_false,ev1] at h ⊢
     obtain ⟨u,h1,h2⟩:=aD.1 h;simp only [aM] at h2;obtain ⟨rfl,rfl⟩:=h2;split at h1 <;> first|cases h1|skip
     all_goals
      first
       | (rename_i e _ _; cases e; done)
       | (rename_i e _; cases e; done)
       | (refine ⟨rfl,fun _ _ _=>?_⟩; rw [h1]; rfl))
 case makeFunc.intro fn first caps=>
  cases fn <;> simp only [Cg,aQ,if_false,ev1,Option.map_none] at h ⊢ <;> try cases h
  obtain ⟨u,h1,h2⟩:=aD.1 h;simp only [aM] at h2;obtain ⟨rfl,rfl⟩:=h2;exact ⟨rfl,fun _ _ _=>h⟩
 all_goals
  (simp only [Cg,aQ,if_false,ev1] at h ⊢
   obtain ⟨u,h1,h2⟩:=aD.1 h;simp only [aM] at h2;obtain ⟨rfl,rfl⟩:=h2;exact ⟨rfl,fun _ _ _=>h⟩)
theorem Kim(hc:Zv op=.rd)(h:evO P Gl dst op ρ H T X=some (v,e)):e=.none/\(∀ T',evO P Gl dst op ρ H T' X=some (v,e))/\∀ d x T',H d=none->evO P Gl dst op ρ (upd H d x) T' X=some (v,e):=by
 unfold evO at h ⊢;cases op <;> simp only [Zv] at hc <;> try cases hc
 case lookup.intro t x k ok=>
  simp only [Cg,aQ,if_false,ev1] at h ⊢;obtain ⟨u,h1,h2⟩:=aD.1 h;simp only [aM] at h2;obtain ⟨rfl,rfl⟩:=h2;refine ⟨rfl,fun _=>h,fun d x' T' hd=>?_⟩;cases hx:ρ x <;> rw [hx] at h h1 <;> simp only at h h1 ⊢ <;> first|exact h|(cases h1; done)|skip
  rename_i l;have:l≠d:=fun e=>by subst e; rw [hd] at h1; cases h1
  rw [Kc _ _ _ _ this]; exact h
 case call c=>
  split at hc <;> try cases hc
  rename_i hcal;simp only [Cg,hcal,aQ,if_false,ev1] at h ⊢;obtain ⟨u,h1,h2⟩:=aD.1 h;simp only [aM] at h2;obtain ⟨rfl,rfl⟩:=h2;refine ⟨rfl,fun _=>h,fun d x' T' hd=>?_⟩;split at h1
  ·rename_i x t _ h3 h4;have:Jwn P (upd H d x') t (ρ x)=some u:=by
    cases hx:ρ x <;> rw [hx] at h1 <;> simp only [Jwn] at h1 ⊢ <;> try exact h1
    rename_i l;have:l≠d:=fun e=>by subst e; rw [hd] at h1; cases h1
    rw [Kc _ _ _ _ this]; exact h1
   rw [this]; rfl
  all_goals first|(rename_i h5 _; cases h5)|cases h1
theorem Kg7(hc:Zv op=.ld)(h:evO P Gl dst op ρ H T X=some (v,e)):e=.none/\(∀ T',evO P Gl dst op ρ H T' X=some (v,e))/\∀ d x T',H d=none->evO P Gl dst op ρ (upd H d x) T' X=some (v,e):=by
 unfold evO at h ⊢;cases op <;> simp only [Zv] at hc <;> try cases hc
 case load.intro t x=>
  simp only [Cg,aQ,if_false,ev1] at h ⊢;obtain ⟨u,h1,h2⟩:=aD.1 h;simp only [aM] at h2;obtain ⟨rfl,rfl⟩:=h2;refine ⟨rfl,fun _=>h,fun d x' T' hd=>?_⟩;have:Jdk P Gl (upd H d x') X t (ρ x)=some u:=by
   cases hx:ρ x <;> rw [hx] at h1 <;> simp only [Jdk] at h1 ⊢ <;> try exact h1
   rename_i l o;have:l≠d:=fun e=>by subst e; rw [hd] at h1; cases h1
   rw [Kc _ _ _ _ this]; exact h1
  rw [this]; rfl
 case call c=>split at hc <;> cases hc
theorem Jgr(hc:clR (Zv op)=.rd)(h:evO P Gl dst op ρ H T X=some (v,e)):e=.none/\(∀ T',evO P Gl dst op ρ H T' X=some (v,e))/\∀ d x T',H d=none->evO P Gl dst op ρ (upd H d x) T' X=some (v,e):=by
 cases h0:Zv op <;> rw [h0] at hc <;> first|exact Kim h0 h|exact Kg7 h0 h|cases hc
theorem Jea(hc:Zv op=.al)(h:evO P Gl dst op ρ H T X=some (v,e)):∃ d ob,H d=none/\e=.obj d ob/\dst=some d/\∀ H' T' X',H' d=none->evO P Gl dst op ρ H' T' X'=some (v,e):=by
 unfold evO at h ⊢;cases op <;> simp only [Zv] at hc <;> try cases hc
 case alloc.intro t=>
  simp only [Cg,if_true,evE] at h ⊢;split at h
  ·rename_i d z h1;split at h
   ·rename_i h2;cases h;obtain ⟨h21,h22⟩:=h2;simp only [aI,decide_eq_true_eq] at h21;exact ⟨d,_,by simpa using h21.1,rfl,rfl,fun H' T' X' hd=>by rw [if_pos ⟨by simp [hd,h21.2],h22⟩]⟩
   ·cases h
  ·cases h
 case box.intro t x=>
  simp only [Cg,if_true,evE] at h ⊢;split at h
  ·rename_i d;split at h
   ·rename_i h2;cases h;obtain ⟨h21,h22⟩:=h2;simp only [aI,decide_eq_true_eq] at h21;exact ⟨d,_,by simpa using h21.1,rfl,rfl,fun H' T' X' hd=>by rw [if_pos ⟨by simp [hd,h21.2],h22⟩]⟩
   ·cases h
  ·cases h
 case makeMap.intro t r=>
  simp only [Cg,if_true,evE] at h ⊢;split at h
  ·rename_i d;split at h
   ·rename_i h2;cases h;simp only [aI,decide_eq_true_eq] at h2;exact ⟨d,_,by simpa using h2.1,rfl,rfl,fun H' T' X' hd=>by rw [if_pos (by simp [hd,h2.2])]⟩
   ·cases h
  ·cases h
 case call c=>split at hc <;> cases hc
theorem Kh9(hc:Zv op=.st)(h:evO P Gl dst op ρ H T X=some (v,e)):(∃ l ob,(H l).isSome=true/\e=.obj l ob/\∀ H' T',H' l=H l->evO P Gl dst op ρ H' T' X=some (v,e))\/∃ t x,e=.xs t x/\∀ H' T',evO P Gl dst op ρ H' T' X=some (v,e):=by
 unfold evO at h ⊢;cases op <;> simp only [Zv] at hc <;> try cases hc
 case store.intro t x y=>
  simp only [Cg,if_true,evE] at h ⊢;split at h
  ·rename_i l o hx;split at h
   ·rename_i cs r n h1 h2;split at h
    ·rename_i h3;cases h;exact .inl ⟨l,_,by rw [h1]; rfl,rfl,fun H' T' hl=>by rw [hl,h1,h2]; simp only; rw [if_pos h3]⟩
    ·cases h
   ·cases h
  ·rename_i tk k N j o hx;refine .inr ?_;have key:∃ t x,e=.xs t x:=by
    split at h
    ·split at h
     ·obtain ⟨cs,_,hl⟩:=bF.1 h;split at hl
      ·cases hl; exact ⟨_,_,rfl⟩
      ·cases hl
     ·cases h
    ·cases h
   obtain ⟨t,x,he⟩:=key;exact ⟨t,x,he,fun _ _=>h⟩
  ·cases h
 case call c=>split at hc <;> cases hc
theorem Jin{d:TypeDesc}{l:Nat}{es:List (PV×List (List PV))}{k b:Nat}{tk:Nat->Nat}{kv x:PV}(h:Jgb d l es k b tk kv x=some (v,e)):∃ es' tk',e=.obj l (.mapo es' k b tk'):=by
 unfold Jgb at h;split at h
 ·split at h
  ·obtain ⟨r,_,he⟩:=aD.1 h;cases he; exact ⟨_,_,rfl⟩
  ·cases h
 ·cases h
theorem Khm(hc:Zv op=.ms)(h:evO P Gl dst op ρ H T X=some (v,e)):(∃ l ob,(H l).isSome=true/\e=.obj l ob/\∀ H' T',H' l=H l->evO P Gl dst op ρ H' T' X=some (v,e))\/∃ t x,e=.xs t x/\∀ H' T',evO P Gl dst op ρ H' T' X=some (v,e):=by
 unfold evO at h ⊢;cases op <;> simp only [Zv] at hc <;> try cases hc
 case mapUpdate.intro t m k x=>
  simp only [Cg,if_true,evE] at h ⊢;split at h
  ·rename_i l hx;split at h
   ·rename_i es d z dv h1 h2 h4;split at h
    ·rename_i h3;obtain ⟨es',hp,he⟩:=aD.1 h;cases he;exact .inl ⟨l,_,by rw [h1]; rfl,rfl,fun H' T' hl=>by simp [hl,h1,h2,h4,h3.1,h3.2,hp]⟩
    ·cases h
   ·rename_i es k' b tk d z dv h1 h2 h4;obtain ⟨es',tk',he⟩:=Jin h;exact .inl ⟨l,_,by rw [h1]; rfl,he,fun H' T' hl=>by simp [hl,h1,h2,h4,h]⟩
   ·cases h
  ·cases h
 case call c=>split at hc <;> cases hc
theorem Ju9(hc:clS (Zv op)=.st)(h:evO P Gl dst op ρ H T X=some (v,e)):(∃ l ob,(H l).isSome=true/\e=.obj l ob/\∀ H' T',H' l=H l->evO P Gl dst op ρ H' T' X=some (v,e))\/∃ t x,e=.xs t x/\∀ H' T',evO P Gl dst op ρ H' T' X=some (v,e):=by
 cases h0:Zv op <;> rw [h0] at hc <;> first|exact Kh9 h0 h|exact Khm h0 h|cases hc
theorem Kjv(hc:Zv op=.ld)(h:evO P Gl dst op ρ H T X=some (v,e)){l:Nat}{ob ob':Ue}(hl:H l=some ob)(hn:∀ cs,ob≠.cells cs):evO P Gl dst op ρ (upd H l (some ob')) T X=some (v,e):=by
 unfold evO at h ⊢;cases op <;> simp only [Zv] at hc <;> try cases hc
 case load.intro t x=>
  simp only [Cg,aQ,if_false,ev1] at h ⊢;obtain ⟨u,h1,h2⟩:=aD.1 h;simp only [aM] at h2;obtain ⟨rfl,rfl⟩:=h2;have:Jdk P Gl (upd H l (some ob')) X t (ρ x)=some u:=by
   cases hx:ρ x <;> rw [hx] at h1 <;> simp only [Jdk] at h1 ⊢ <;> try exact h1
   rename_i l' o;have:l'≠l:=fun e=>by
    subst e; rw [hl] at h1;cases ob with
    | cells cs=>exact hn cs rfl
    | _=>cases h1
   rw [Kc _ _ _ _ this]; exact h1
  rw [this]; rfl
 case call c=>split at hc <;> cases hc
theorem Kjz(hc:Zv op=.ms)(h:evO P Gl dst op ρ H T X=some (v,e)):∃ l ob ob',(H l=some ob/\∀ cs,ob≠.cells cs)/\e=.obj l ob':=by
 unfold evO at h;cases op <;> simp only [Zv] at hc <;> try cases hc
 case mapUpdate.intro t m k x=>
  simp only [Cg,if_true,evE] at h;split at h
  ·rename_i l hx;split at h
   ·rename_i es d z dv h1 h2 h4;split at h
    ·obtain ⟨es',hp,he⟩:=aD.1 h;cases he;exact ⟨l,_,_,⟨h1,fun cs q=>by cases q⟩,rfl⟩
    ·cases h
   ·rename_i es k' b tk d z dv h1 h2 h4;obtain ⟨es',tk',he⟩:=Jin h;exact ⟨l,_,_,⟨h1,fun cs q=>by cases q⟩,he⟩
   ·cases h
  ·cases h
 case call c=>split at hc <;> cases hc
theorem Jfv(hc:Zv op=.ap)(h:evO P Gl dst op ρ H T X=some (v,e)):∃ t n k,e=.tok t n k/\∀ H' X',evO P Gl dst op ρ H' T X'=some (v,e):=by
 unfold evO at h ⊢;cases op <;> simp only [Zv] at hc <;> try cases hc
 case makeSlice.intro t n c=>
  simp only [Cg,if_true,evE] at h ⊢;have key:∃ t n k,e=.tok t n k:=by
   split at h
   ·split at h
    ·split at h
     ·cases h; exact ⟨_,_,_,rfl⟩
     ·cases h
    ·cases h
   ·cases h
  obtain ⟨t,n,k,he⟩:=key;exact ⟨t,n,k,he,fun _ _=>h⟩
 case call c=>
  split at hc <;> try cases hc
  rename_i hcal;simp only [Cg,hcal,if_true,evE] at h ⊢;have key:∃ t n k,e=.tok t n k:=by
   split at h
   ·unfold Jai at h;split at h
    ·split at h
     ·split at h
      all_goals first|(split at h <;> first|(split at h <;> first|(cases h; exact ⟨_,_,_,rfl⟩)|cases h)|cases h)|cases h
     ·cases h
    ·cases h
   ·cases h
  obtain ⟨t,n,k,he⟩:=key;exact ⟨t,n,k,he,fun _ _=>h⟩
end
end PM
namespace PM
open Go Go.RowKit
section
variable {P:Program} {Gl:GL} {ops:Array Oper} {s:PSt} {md:Region.Mode}
def gOn(ops:Array Oper)(o:Oper)(s:PSt):Option Bool :=
 match Jd0 ops o with
 | .always=>some true
 | .never=>some false
 | .slot t w=>match s.get t with
  | .bool b=>some (b == w)
  | .tup []=>some false
  | _=>none
 | .bad=>none
def Ul(P:Program)(Gl:GL)(o:Oper)(x:PV×Eff)(s:PSt):Prop :=
 match Vx o.op with
 | some (f,args)=>x.2=.none/\∃ f' caps as r,s.ev f=.fn f' caps/\caps.all Ev=true/\Yx P Gl f' as r/\((Sg (args.map s.ev++caps)=some as/\Wc r=[]/\x.1=Jau (o.dst.getD 0) r) \/
  ∃ ts eqs,Jek ts s (args.map s.ev++caps)=some (as,eqs)/\eqs.map (·.1)=eqs.map (·.2)/\(ts.all Jam)=true/\Kcd r=true/\x.1=r)
 | none=>evO P Gl o.dst o.op s.ev s.H s.T s.X=some x
def Xa(P:Program)(Gl:GL)(ops:Array Oper)(o:Oper)(x:PV×Eff)(s:PSt):Prop :=
 (gOn ops o s=some true/\Ul P Gl o x s)\/(gOn ops o s=some false/\x=(.tup [],.none))
def Zb(o:Oper)(x:PV×Eff)(s:PSt):PSt:=(x.2.app s).put o.dst x.1
def gOp(P:Program)(Gl:GL)(ops:Array Oper)(o:Oper)(K:PSt->Prop)(s:PSt):Prop:=Be (Jd0 ops o) s (Xp P Gl true o s K) (K (s.put o.dst (.tup [])))
theorem Jel{o:Oper}{K:PSt->Prop}:gOp P Gl ops o K s↔∃ x,Xa P Gl ops o x s/\K (Zb o x s):=by
 have hstep:Xp P Gl true o s K↔∃ x,Ul P Gl o x s/\K (Zb o x s):=by
  unfold Xp Ul Zb;cases hco:Vx o.op with
  | some fa=>
   obtain ⟨fx,args⟩:=fa;simp only;constructor
   ·rintro (⟨f,caps,as,r,e1,e2,e3,e4,e5,e6,e7⟩|⟨f,caps,as,r,ts,eqs,e1,e2,e3,e4,e5,e6,e7,e8⟩)
    ·have ht:=e6 rfl;rw [ht] at e7;exact ⟨(_,.none),⟨rfl,f,caps,as,r,e1,e2,e4,.inl ⟨e3,ht,rfl⟩⟩,e7⟩
    ·exact ⟨(r,.none),⟨rfl,f,caps,as,r,e1,e2,e6,.inr ⟨ts,eqs,e3,e4,e5,e7,rfl⟩⟩,e8⟩
   ·rintro ⟨⟨v,e⟩,⟨rfl,f,caps,as,r,e1,e2,e4,⟨e3,ht,rfl⟩|⟨ts,eqs,e3,e5,e6,e7,rfl⟩⟩,hK⟩
    ·refine .inl ⟨f,caps,as,r,e1,e2,e3,e4,by rw [ht]; trivial,fun _=>ht, ?_⟩;rw [ht]; exact hK
    ·exact .inr ⟨f,caps,as,_,ts,eqs,e1,e2,e3,e5,e6,e4,e7,hK⟩
  | none=>
   simp only;constructor
   ·rintro ⟨x,e1,e2⟩; exact ⟨x,e1,e2⟩
   ·rintro ⟨x,e1,e2⟩; exact ⟨x,e1,e2⟩
 unfold gOp Xa gOn Be;cases Jd0 ops o with
 | always=>
  simp only [hstep];constructor
  ·rintro ⟨x,h1,h2⟩; exact ⟨x,.inl ⟨trivial,h1⟩,h2⟩
  ·rintro ⟨x,⟨_,h1⟩|⟨h1,_⟩,h2⟩
   ·exact ⟨x,h1,h2⟩
   ·cases h1
 | never=>
  constructor
  ·intro h; exact ⟨(.tup [],.none),.inr ⟨rfl,rfl⟩,h⟩
  ·rintro ⟨x,⟨h1,_⟩|⟨_,rfl⟩,h2⟩
   ·cases h1
   ·exact h2
 | bad=>simp
 | slot t w=>
  simp only [hstep];cases hg:s.get t
  case bool b=>
   by_cases hb:b=w
   ·subst hb;simp only [beq_self_eq_true,true_and];constructor
    ·rintro ⟨h1,_⟩;obtain ⟨x,h2,h3⟩:=h1 trivial;exact ⟨x,.inl h2,h3⟩
    ·rintro ⟨x,h1|⟨h1,_⟩,h2⟩
     ·exact ⟨fun _=>⟨x,h1,h2⟩,fun e=>by cases b <;> cases e⟩
     ·simp at h1
   ·have hbw:(b == w)=false:=by simpa using hb
    simp only [hbw];constructor
    ·rintro ⟨_,h1⟩;exact ⟨(.tup [],.none),.inr ⟨trivial,rfl⟩,h1 (by cases b <;> cases w <;> simp_all)⟩
    ·rintro ⟨x,⟨h1,_⟩|⟨_,rfl⟩,h2⟩
     ·cases h1
     ·exact ⟨fun e=>absurd e hb,fun _=>h2⟩
  case tup vs=>
   cases vs with
   | nil=>
    constructor
    ·intro h; exact ⟨(.tup [],.none),.inr ⟨rfl,rfl⟩,h⟩
    ·rintro ⟨x,⟨h1,_⟩|⟨_,rfl⟩,h2⟩
     ·cases h1
     ·exact h2
   | cons v vs=>simp
  all_goals simp
def Jq4(P:Program)(Gl:GL)(md:Region.Mode)(ops:Array Oper)(Q:PSt->Prop):Nat->Array Bool->PSt->Prop
 | 0,listed,s=>Region.ready md ops listed=[]/\Q s
 | fuel+1,listed,s=>(Region.ready md ops listed=[]->Q s)/\∀ i∈Region.ready md ops listed,∃ o,ops[i]? = some o/\gOp P Gl ops o (Jq4 P Gl md ops Q fuel (listed.setIfInBounds i true)) s
theorem Kdm{o:Oper}{K K':PSt->Prop}(h:∀ s,K s->K' s)(hg:gOp P Gl ops o K s):gOp P Gl ops o K' s:=by
 rw [Jel] at hg ⊢;obtain ⟨x,h1,h2⟩:=hg;exact ⟨x,h1,h _ h2⟩
theorem Jeb{S0:Bs}{w0:World}{Q:PSt->Prop}{Q':Exit->Act->World->Prop}(hQ:∀ s' a' w',Q s'->Inv Gl S0 w0 s' a' w'->Q' .normal a' w') :
  ∀ (fuel:Nat) (listed:Array Bool) (s:PSt) (a:Act) (w:World),Inv Gl S0 w0 s a w->Jq4 P Gl md ops Q fuel listed s->wpAny P md ops Q' fuel listed a w
 | 0,_,_,_,_,hi,h=>⟨h.1,hQ _ _ _ h.2 hi⟩
 | fuel+1,listed,s,a,w,hi,h=>by
  refine ⟨fun h0=>hQ _ _ _ (h.1 h0) hi,fun i hir=>?_⟩;obtain ⟨o,ho,hg⟩:=h.2 i hir;unfold wpOp;simp only [ho];obtain ⟨g,rfl,hg'⟩:=hi;unfold gOp at hg;rcases Jbe hg' hg with ⟨h1,h2⟩|⟨h1,h2⟩
  ·rw [if_pos h1];exact .inl (Jl6 hg' h2 fun s' a' w' hs' hi'=>Jeb hQ fuel _ s' a' w' hi' hs')
  ·rw [if_neg (by rw [h1]; simp)];exact Jeb hQ fuel _ _ _ _ ⟨g,rfl,hg'.put _ (Rel.und _)⟩ h2
theorem Jt4{dst:Option Nat}{v:PV}{x:Operand}(h:∀ d,dst=some d->x≠.tmp d):(s.put dst v).ev x=s.ev x:=by
 cases dst with
 | none=>rfl
 | some d=>
  cases x with
  | tmp t=>
   have:d≠t:=fun e=>h d rfl (by rw [e]);show (s.put (some d) v).get t=s.get t;exact Od (by simpa using this)
  | const v=>rfl
  | global g=>rfl
  | func f=>rfl
theorem Jvd(e:Eff)(x:Operand):(e.app s).ev x=s.ev x:=by
 cases e <;> cases x <;> rfl
theorem Kh1(e:Eff)(t:Nat):(e.app s).get t=s.get t:=by cases e <;> rfl
theorem Jhp{o:Oper}{x:Operand}{d:Nat}(hd:d∉o.looksAt ops)(hx:x∈o.op.operands):x≠.tmp d:=by
 rintro rfl;exact hd (by simp only [Oper.looksAt,aY,List.mem_filterMap]; exact .inl ⟨.tmp d,by simpa using hx,rfl⟩)
theorem Jwk{o o':Oper}{x:PV×Eff}(h:∀ d,o'.dst=some d->d∉o.looksAt ops):gOn ops o (Zb o' x s)=gOn ops o s:=by
 unfold gOn Jd0;cases hg:o.guard with
 | none=>rfl
 | some jw=>
  obtain ⟨j,w⟩:=jw;simp only;cases hd:(ops[j]?).bind (·.dst) with
  | none=>rfl
  | some t=>
   simp only;have:(Zb o' x s).get t=s.get t:=by
    unfold Zb;rw [Od,Kh1];cases hd':o'.dst with
    | none=>rfl
    | some d=>
     have:=h d hd';have hne:d≠t:=fun e=>this (by subst e; simp only [Oper.looksAt,hg,hd]; simp)
     simpa using hne
   rw [this]
theorem Jt5{a b:Option Nat}{u v:PV}(h:∀ d,a=some d->b≠some d):(s.put a u).put b v=(s.put b v).put a u:=by
 cases a with
 | none=>rfl
 | some i=>
  cases b with
  | none=>rfl
  | some j=>
   have hne:i≠j:=fun e=>h i rfl (by rw [e])
   by_cases hi:i+s.m<s.tm.length
   ·by_cases hj:j+s.m<s.tm.length
    ·rw [s.put_in u hi,s.put_in v hj,PSt.put_in _ v (by simpa using hj),PSt.put_in _ u (by simpa using hi)];simp only;rw [List.set_comm _ _ hne]
    ·rw [s.put_in u hi,s.put_out v hj,PSt.put_out _ v (by simpa using hj),s.put_in u hi]
   ·rw [s.put_out u hi]
    by_cases hj:j+s.m<s.tm.length
    ·rw [s.put_in v hj,PSt.put_out _ u (by simpa using hi)]
    ·rw [s.put_out v hj,s.put_out u hi]
theorem Kbn(e:Eff)(a:Option Nat)(u:PV):e.app (s.put a u)=(e.app s).put a u:=by
 cases a with
 | none=>cases e <;> rfl
 | some i=>
  have em:(e.app s).m=s.m:=by cases e <;> rfl
  have et:(e.app s).tm=s.tm:=by cases e <;> rfl
  by_cases hi:i+s.m<s.tm.length
  ·rw [s.put_in u hi,PSt.put_in _ u (by rw [em,et]; exact hi)];cases e <;> rfl
  ·rw [s.put_out u hi,PSt.put_out _ u (by rw [em,et]; exact hi)]
theorem Jra{o:Oper}{f:Operand}{args:List Operand}(h:Vx o.op=some (f,args)):f∈o.op.operands/\∀ x∈args,x∈o.op.operands:=by
 obtain ⟨c,h1,h2,h3⟩:=Zg h;rw [h1];simp only [Op.operands,Call.operands,h2,<- h3];exact ⟨by simp,fun x hx=>by simp only [Array.mem_append]; exact .inr (by simpa using hx)⟩
theorem Kcw{o:Oper}{y:Operand×List Operand}(h:Vx o.op=some y):Zv o.op=.pure:=by
 obtain ⟨f,args⟩:=y;obtain ⟨c,h1,h2,h3⟩:=Zg h;rw [h1]; simp [Zv,h2]
def Mp(s s':PSt):Prop:=∀ t N',Jam t=true->s.T t=some (N',0)->s'.X t=s.X t/\s'.T t=s.T t
theorem Mp.of_eq{s s':PSt}(hT:s'.T=s.T)(hX:s'.X=s.X):Mp s s':=fun t _ _ _=>⟨by rw [hX],by rw [hT]⟩
theorem Jxn{ts:List Nat}(hts:(ts.all Jam)=true){s s':PSt}(hk:Mp s s'){p:PV}{q:PV×List (Nat×Nat)}(h:bd1 ts s p=some q):bd1 ts s' p=some q:=by
 cases p
 case ex t k b N o n=>
  simp only [bd1] at h ⊢;cases hc:ts.contains t with
  | false=>rw [hc] at h; cases h
  | true=>
   rw [hc] at h;have ht:Jam t=true:=aK.1 hts t (by simpa using hc);simp only at h ⊢;split at h
   ·rename_i k' b' xss N' e1 e2;obtain ⟨h1,h2⟩:=hk t N' ht e2;rw [h1,h2,e1,e2];exact h
   ·cases h
 all_goals exact h
theorem Jvi{ts:List Nat}(hts:(ts.all Jam)=true){s s':PSt}(hk:Mp s s'):∀ {ps:List PV} {q:List PV×List (Nat×Nat)},bdL ts s ps=some q->bdL ts s' ps=some q
 | [],q,h=>h
 | p::ps,q,h=>by
  simp only [bdL] at h ⊢;split at h
  ·rename_i x y e1 e2;rw [Jxn hts hk e1,Jvi hts hk e2]; exact h
  ·cases h
theorem Kf5{ts:List Nat}(hts:(ts.all Jam)=true){s s':PSt}(hk:Mp s s'){p:PV}{q:PV×List (Nat×Nat)}(h:bdA ts s p=some q):bdA ts s' p=some q:=by
 cases p
 case agg cs=>
  simp only [bdA] at h ⊢;obtain ⟨x,h1,rfl⟩:=aD.1 h;rw [Jvi hts hk h1]; rfl
 all_goals
  simp only [bdA] at h ⊢;exact Jxn hts hk h
theorem Jsl{ts:List Nat}(hts:(ts.all Jam)=true){s s':PSt}(hk:Mp s s'):∀ {ps:List PV} {q:List PV×List (Nat×Nat)},Jek ts s ps=some q->Jek ts s' ps=some q
 | [],q,h=>h
 | p::ps,q,h=>by
  simp only [Jek] at h ⊢;split at h
  ·rename_i x y e1 e2;rw [Kf5 hts hk e1,Jsl hts hk e2]; exact h
  ·cases h
def Kkh(T:Nat->Option (Nat×Nat)):Eff->Prop
 | .tok t _ k=>k≠0/\(T t=none\/∃ n,T t=some (n,k))
 | .xs t _=>Jam t=false
 | _=>True
theorem Jnt{t e:TypeId}{k b:Nat}(h:Jhx P t=some (e,k,b)):k≠0:=let ⟨_,_,_,_,_,_,_,_,k7⟩:=Tf h; k7
theorem Jvf{dst:Option Nat}{op:Op}{ρ:Operand->PV}{H:Nat->Option Ue}{T:Nat->Option (Nat×Nat)}{X:XT}{v:PV}{e:Eff}(h:evO P Gl dst op ρ H T X=some (v,e)):Kkh T e:=by
 unfold evO at h;split at h
 ·cases op <;> simp only [evE] at h <;> try cases h
  case alloc t=>
   split at h
   ·split at h
    ·cases h; trivial
    ·cases h
   ·cases h
  case box t x=>
   split at h
   ·split at h
    ·cases h; trivial
    ·cases h
   ·cases h
  case store t x y=>
   split at h
   ·split at h
    ·split at h
     ·cases h; trivial
     ·cases h
    ·cases h
   ·split at h
    ·split at h
     ·rename_i hc;obtain ⟨cs,_,hl⟩:=bF.1 h;split at hl
      ·cases hl;have hlt:=(by simpa using (Bool.and_eq_true_iff.1 hc.1).2)
       exact hlt
      ·cases hl
     ·cases h
    ·cases h
   ·cases h
  case buildSlice t n parts=>
   split at h
   ·split at h
    ·cases h; trivial
    ·cases h
   ·cases h
  case makeMap t r=>
   split at h
   ·split at h
    ·cases h; trivial
    ·cases h
   ·cases h
  case makeSlice t n c=>
   split at h
   ·split at h
    ·rename_i hc;split at h
     ·cases h;exact ⟨Jnt (by assumption),.inl hc.2⟩
     ·cases h
    ·cases h
   ·cases h
  case mapUpdate t m k x=>
   split at h
   ·split at h
    ·split at h
     ·obtain ⟨es',_,he⟩:=aD.1 h;cases he; trivial
     ·cases h
    ·obtain ⟨es',tk',he⟩:=Jin h;subst he; trivial
    ·cases h
   ·cases h
  case call c=>
   split at h
   ·unfold Jai at h;split at h
    ·split at h
     ·split at h
      ·split at h
       ·rename_i hT;split at h
        ·cases h; exact ⟨Jnt (by assumption),.inl hT⟩
        ·cases h
       ·cases h
      ·split at h
       ·rename_i hT;split at h
        ·cases h; exact ⟨Jnt (by assumption),.inl hT.2.2⟩
        ·cases h
       ·cases h
      ·split at h
       ·rename_i hT;split at h
        ·cases h; exact ⟨Jnt (by assumption),.inr ⟨_,hT.2.2⟩⟩
        ·cases h
       ·cases h
      ·cases h
     ·cases h
    ·cases h
   ·cases h
 ·obtain ⟨p,_,he⟩:=aD.1 h;cases he; trivial
theorem Kdp{e:Eff}(h:Kkh s.T e):Mp s (e.app s):=by
 intro t N' ht hT;cases e with
 | none=>exact ⟨rfl,rfl⟩
 | obj l ob=>exact ⟨rfl,rfl⟩
 | tok t0 n k=>
  refine ⟨rfl, ?_⟩;show upd s.T t0 _ t=_
  by_cases q:t=t0
  ·subst q;obtain ⟨h1,h2|⟨n',h2⟩⟩:=h
   ·rw [h2] at hT; cases hT
   ·rw [h2] at hT; simp only [aP,aM] at hT; exact absurd hT.2 h1
  ·rw [Kc _ _ _ _ q]
 | xs t0 x=>
  refine ⟨?_,rfl⟩;show upd s.X t0 _ t=_;have h:Jam t0=false:=h;rw [Kc _ _ _ _ (by rintro rfl; rw [h] at ht; cases ht)]
theorem Kef{e:Eff}(h:Kkh s.T e):Mp (e.app s) s:=by
 intro t N' ht hT;cases e with
 | none=>exact ⟨rfl,rfl⟩
 | obj l ob=>exact ⟨rfl,rfl⟩
 | tok t0 n k=>
  refine ⟨rfl, ?_⟩;have hT:upd s.T t0 (some (n,k)) t=some (N',0):=hT;show _=upd s.T t0 _ t
  by_cases q:t=t0
  ·subst q;rw [Kr] at hT;simp only [aP,aM] at hT; exact absurd hT.2 h.1
  ·rw [Kc _ _ _ _ q]
 | xs t0 x=>
  refine ⟨?_,rfl⟩;show _=upd s.X t0 _ t;have h:Jam t0=false:=h;rw [Kc _ _ _ _ (by rintro rfl; rw [h] at ht; cases ht)]
theorem Jvb{o:Oper}{x:PV×Eff}:(Zb o x s).T=(x.2.app s).T:=(PSt.put_H _ _ _).2.1
theorem Jy9{o:Oper}{x:PV×Eff}:(Zb o x s).X=(x.2.app s).X:=(PSt.put_H _ _ _).2.2
theorem Mp.goTo_r{s s':PSt}{o:Oper}{x:PV×Eff}(h:Mp s (x.2.app s')):Mp s (Zb o x s'):=fun t N' h1 h2=>by rw [Jvb,Jy9]; exact h t N' h1 h2
theorem Mp.goTo_l{s s':PSt}{o:Oper}{x:PV×Eff}(h:Mp (x.2.app s) s'):Mp (Zb o x s) s':=fun t N' h1 h2=>by rw [Jvb] at h2; rw [Jvb,Jy9]; exact h t N' h1 h2
theorem Ul.pure{o:Oper}{x:PV×Eff}(hc:Zv o.op=.pure)(h:Ul P Gl o x s):x.2=.none/\∀ s':PSt,(∀ y∈o.op.operands,s'.ev y=s.ev y)->Mp s s'->Ul P Gl o x s':=by
 unfold Ul at h ⊢;cases hcall:Vx o.op with
 | some y=>
  obtain ⟨f,args⟩:=y;simp only [hcall] at h ⊢;obtain ⟨e,f',caps,as,r,h1,h2,h3,h4⟩:=h;obtain ⟨k1,k2⟩:=Jra hcall;refine ⟨e,fun s' hs hk=>⟨e,f',caps,as,r,by rw [hs f k1]; exact h1,h2,h3, ?_⟩⟩;rw [fA (g:=s.ev) fun y hy=>hs y (k2 y hy)];exact h4.imp id fun ⟨ts,eqs,q1,q2,q3,q4⟩=>⟨ts,eqs,Jsl q3 hk q1,q2,q3,q4⟩
 | none=>
  simp only [hcall] at h ⊢;obtain ⟨v,e⟩:=x;obtain ⟨h1,h2⟩:=Kfs hc h;exact ⟨h1,fun s' hs _=>by rw [Jhh hs]; exact h2 _ _ _⟩
theorem Ul.ev_iff{o:Oper}{x:PV×Eff}(hc:Zv o.op≠.pure):Ul P Gl o x s↔evO P Gl o.dst o.op s.ev s.H s.T s.X=some x:=by
 unfold Ul;cases hcall:Vx o.op with
 | some y=>exact absurd (Kcw hcall) hc
 | none=>exact Iff.rfl
theorem Ul.move{o:Oper}{x:PV×Eff}{s s':PSt}(hc:Zv o.op≠.pure)(hs:∀ y∈o.op.operands,s'.ev y=s.ev y)(h:evO P Gl o.dst o.op s.ev s'.H s'.T s'.X=some x):Ul P Gl o x s':=by
 rw [Ul.ev_iff hc,Jhh hs]; exact h
theorem swap{oi oj:Oper}{x y:PV×Eff}(hap:oi.apart ops oj=true)(hcm:Jqi (Zv oi.op) (Zv oj.op)=true)(hi:Ul P Gl oi x s)(hj:Ul P Gl oj y (Zb oi x s)) :
  Ul P Gl oj y s/\Ul P Gl oi x (Zb oj y s)/\x.2.app (y.2.app s)=y.2.app (x.2.app s):=by
 obtain ⟨a1,a2,a3⟩:=Oper.apart_spec hap;have ej:∀ z∈oj.op.operands,(Zb oi x s).ev z=s.ev z:=fun z hz=>by
  unfold Zb; rw [Jt4 (fun d hd=>Jhp (a1 d hd) hz),Jvd]
 have ei:∀ z∈oi.op.operands,(Zb oj y s).ev z=s.ev z:=fun z hz=>by
  unfold Zb; rw [Jt4 (fun d hd=>Jhp (a3 d hd) hz),Jvd]
 have hH:(Zb oi x s).H=(x.2.app s).H:=by unfold Zb; exact (PSt.put_H _ _ _).1
 have hT:(Zb oi x s).T=(x.2.app s).T:=by unfold Zb; exact (PSt.put_H _ _ _).2.1
 have hX:(Zb oi x s).X=(x.2.app s).X:=by unfold Zb; exact (PSt.put_H _ _ _).2.2
 have hH':(Zb oj y s).H=(y.2.app s).H:=by unfold Zb; exact (PSt.put_H _ _ _).1
 have hT':(Zb oj y s).T=(y.2.app s).T:=by unfold Zb; exact (PSt.put_H _ _ _).2.1
 have hX':(Zb oj y s).X=(y.2.app s).X:=by unfold Zb; exact (PSt.put_H _ _ _).2.2
 by_cases pi:Zv oi.op=.pure
 ·obtain ⟨e1,e2⟩:=Ul.pure pi hi;have hTi:(Zb oi x s).T=s.T:=by rw [Jvb,e1]; rfl
  have hXi:(Zb oi x s).X=s.X:=by rw [Jy9,e1]; rfl
  have hkj:Mp s (Zb oj y s):=by
   refine Mp.goTo_r ?_
   by_cases pj:Zv oj.op=.pure
   ·rw [(Ul.pure pj hj).1]; exact fun _ _ _ _=>⟨rfl,rfl⟩
   ·have:=Jvf ((Ul.ev_iff pj).1 hj);rw [hTi] at this;exact Kdp this
  refine ⟨?_,e2 _ ei hkj,by rw [e1]; rfl⟩
  by_cases pj:Zv oj.op=.pure
  ·exact (Ul.pure pj hj).2 _ (fun z hz=>(ej z hz).symm) (Mp.of_eq hTi.symm hXi.symm)
  ·rw [Ul.ev_iff pj,Jhh ej,hH,hT,hX,e1] at hj;rw [Ul.ev_iff pj]; exact hj
 ·by_cases pj:Zv oj.op=.pure
  ·obtain ⟨e1,e2⟩:=Ul.pure pj hj;have hki:Mp (Zb oi x s) s:=Mp.goTo_l (Kef (Jvf ((Ul.ev_iff pi).1 hi)));refine ⟨e2 _ (fun z hz=>(ej z hz).symm) hki, ?_,by rw [e1]; rfl⟩;refine Ul.move pi ei ?_;rw [hH',hT',hX',e1];exact (Ul.ev_iff pi).1 hi
  ·rw [Ul.ev_iff pi] at hi;rw [Ul.ev_iff pj,Jhh ej,hH,hT,hX] at hj;obtain ⟨v,e⟩:=x;obtain ⟨u,f⟩:=y;simp only at hj hH' hT' hX' ⊢;rw [Ul.ev_iff pj];have fin:evO P Gl oj.dst oj.op s.ev s.H s.T s.X=some (u,f)->evO P Gl oi.dst oi.op s.ev (f.app s).H (f.app s).T (f.app s).X=some (v,e)->e.app (f.app s)=f.app (e.app s) ->
     evO P Gl oj.dst oj.op s.ev s.H s.T s.X=some (u,f)/\Ul P Gl oi (v,e) (Zb oj (u,f) s)/\e.app (f.app s)=f.app (e.app s):=fun q1 q2 q3=>
    ⟨q1,Ul.move pi ei (by rw [hH',hT',hX']; exact q2),q3⟩
   cases ci:Zv oi.op <;> first|exact absurd ci pi|skip
   case rd=>
    obtain ⟨rfl,r1,r2⟩:=Jgr (by rw [ci]; rfl) hi;cases cj:Zv oj.op <;> first|exact absurd cj pj|(rw [ci,cj] at hcm; cases hcm; done)|skip
    case rd=>
     obtain ⟨rfl,_,_⟩:=Jgr (by rw [cj]; rfl) hj;exact fin hj hi rfl
    case ld=>
     obtain ⟨rfl,_,_⟩:=Jgr (by rw [cj]; rfl) hj;exact fin hj hi rfl
    case al=>
     obtain ⟨d,ob,k1,rfl,_,k2⟩:=Jea cj hj;exact fin hj (r2 d _ _ k1) rfl
    case ap=>
     obtain ⟨t,n,k,rfl,_⟩:=Jfv cj hj;exact fin hj (r1 _) rfl
   case ld=>
    obtain ⟨rfl,r1,r2⟩:=Jgr (by rw [ci]; rfl) hi;cases cj:Zv oj.op <;> first|exact absurd cj pj|(rw [ci,cj] at hcm; cases hcm; done)|skip
    case rd=>
     obtain ⟨rfl,_,_⟩:=Jgr (by rw [cj]; rfl) hj;exact fin hj hi rfl
    case ld=>
     obtain ⟨rfl,_,_⟩:=Jgr (by rw [cj]; rfl) hj;exact fin hj hi rfl
    case al=>
     obtain ⟨d,ob,k1,rfl,_,k2⟩:=Jea cj hj;exact fin hj (r2 d _ _ k1) rfl
    case ap=>
     obtain ⟨t,n,k,rfl,_⟩:=Jfv cj hj;exact fin hj (r1 _) rfl
    case ms=>
     obtain ⟨l,ob,ob',k1,rfl⟩:=Kjz cj hj;exact fin hj (Kjv ci hi k1.1 k1.2) rfl
   case al=>
    obtain ⟨d,ob,k1,rfl,k0,k2⟩:=Jea ci hi;cases cj:Zv oj.op <;> first|exact absurd cj pj|(rw [ci,cj] at hcm; cases hcm; done)|skip
    case al=>
     obtain ⟨d',ob',m1,rfl,m0,m2⟩:=Jea cj hj;have hne:d'≠d:=fun e=>by subst e; simp [Eff.app,upd] at m1
     have m1':s.H d'=none:=by
      have:upd s.H d (some ob) d'=none:=m1
      rwa [Kc _ _ _ _ hne] at this
     refine fin (m2 _ _ _ m1') (k2 _ _ _ ?_) ?_
     ·show upd s.H d' _ d=none;rw [Kc _ _ _ _ (Ne.symm hne)]; exact k1
     ·simp only [Eff.app]; rw [Jpg _ _ _ _ _ hne]
    case ap=>
     obtain ⟨t,n,k,rfl,m2⟩:=Jfv cj hj;exact fin (m2 _ _) (k2 _ _ _ k1) rfl
   case st=>
    rcases Ju9 (by rw [ci]; rfl) hi with ⟨l,ob,k1,rfl,k2⟩|⟨l,ob,rfl,k2⟩
    ·cases cj:Zv oj.op <;> first|exact absurd cj pj|(rw [ci,cj] at hcm; cases hcm; done)|skip
     case al=>
      obtain ⟨d',ob',m1,rfl,m0,m2⟩:=Jea cj hj;have hne:d'≠l:=fun e=>by subst e; simp [Eff.app,upd] at m1
      have m1':s.H d'=none:=by
       have:upd s.H l (some ob) d'=none:=m1
       rwa [Kc _ _ _ _ hne] at this
      refine fin (m2 _ _ _ m1') (k2 _ _ ?_) ?_
      ·show upd s.H d' _ l=s.H l;rw [Kc _ _ _ _ (Ne.symm hne)]
      ·simp only [Eff.app]; rw [Jpg _ _ _ _ _ hne]
     case ap=>
      obtain ⟨t,n,k,rfl,m2⟩:=Jfv cj hj;exact fin (m2 _ _) (k2 _ _ rfl) rfl
    ·cases cj:Zv oj.op <;> first|exact absurd cj pj|(rw [ci,cj] at hcm; cases hcm; done)|skip
     case al=>
      obtain ⟨d',ob',m1,rfl,m0,m2⟩:=Jea cj hj;exact fin (m2 _ _ _ m1) (k2 _ _) rfl
     case ap=>
      obtain ⟨t,n,k,rfl,m2⟩:=Jfv cj hj;exact fin (m2 _ _) (k2 _ _) rfl
   case ms=>
    rcases Ju9 (by rw [ci]; rfl) hi with ⟨l,ob,k1,rfl,k2⟩|⟨l,ob,rfl,k2⟩
    ·cases cj:Zv oj.op <;> first|exact absurd cj pj|(rw [ci,cj] at hcm; cases hcm; done)|skip
     case al=>
      obtain ⟨d',ob',m1,rfl,m0,m2⟩:=Jea cj hj;have hne:d'≠l:=fun e=>by subst e; simp [Eff.app,upd] at m1
      have m1':s.H d'=none:=by
       have:upd s.H l (some ob) d'=none:=m1
       rwa [Kc _ _ _ _ hne] at this
      refine fin (m2 _ _ _ m1') (k2 _ _ ?_) ?_
      ·show upd s.H d' _ l=s.H l;rw [Kc _ _ _ _ (Ne.symm hne)]
      ·simp only [Eff.app]; rw [Jpg _ _ _ _ _ hne]
     case ap=>
      obtain ⟨t,n,k,rfl,m2⟩:=Jfv cj hj;exact fin (m2 _ _) (k2 _ _ rfl) rfl
    ·cases cj:Zv oj.op <;> first|exact absurd cj pj|(rw [ci,cj] at hcm; cases hcm; done)|skip
     case al=>
      obtain ⟨d',ob',m1,rfl,m0,m2⟩:=Jea cj hj;exact fin (m2 _ _ _ m1) (k2 _ _) rfl
     case ap=>
      obtain ⟨t,n,k,rfl,m2⟩:=Jfv cj hj;exact fin (m2 _ _) (k2 _ _) rfl
   case ap=>
    obtain ⟨t,n,k,rfl,k2⟩:=Jfv ci hi;cases cj:Zv oj.op <;> first|exact absurd cj pj|(rw [ci,cj] at hcm; cases hcm; done)|skip
    case rd=>
     obtain ⟨rfl,m1,_⟩:=Jgr (by rw [cj]; rfl) hj;exact fin (m1 _) hi rfl
    case ld=>
     obtain ⟨rfl,m1,_⟩:=Jgr (by rw [cj]; rfl) hj;exact fin (m1 _) hi rfl
    case al=>
     obtain ⟨d',ob',m1,rfl,m0,m2⟩:=Jea cj hj;exact fin (m2 _ _ _ m1) (k2 _ _) rfl
    case st=>
     rcases Ju9 (by rw [cj]; rfl) hj with ⟨l,ob,m1,rfl,m2⟩|⟨l,ob,rfl,m2⟩
     ·exact fin (m2 _ _ rfl) (k2 _ _) rfl
     ·exact fin (m2 _ _) (k2 _ _) rfl
    case ms=>
     rcases Ju9 (by rw [cj]; rfl) hj with ⟨l,ob,m1,rfl,m2⟩|⟨l,ob,rfl,m2⟩
     ·exact fin (m2 _ _ rfl) (k2 _ _) rfl
     ·exact fin (m2 _ _) (k2 _ _) rfl
   case bad=>rw [ci] at hcm; cases hcm
theorem Ul.congr{o:Oper}{x:PV×Eff}{s s':PSt}(hs:∀ y∈o.op.operands,s'.ev y=s.ev y)(hH:s'.H=s.H)(hT:s'.T=s.T)(hX:s'.X=s.X)(h:Ul P Gl o x s):Ul P Gl o x s':=by
 by_cases pc:Zv o.op=.pure
 ·exact (Ul.pure pc h).2 _ hs (Mp.of_eq hT hX)
 ·refine Ul.move pc hs ?_;rw [hH,hT,hX]; exact (Ul.ev_iff pc).1 h
theorem Xa.swap{oi oj:Oper}{x y:PV×Eff}(hap:oi.apart ops oj=true)(hcm:Jqi (Zv oi.op) (Zv oj.op)=true)(hi:Xa P Gl ops oi x s)(hj:Xa P Gl ops oj y (Zb oi x s)) :
  Xa P Gl ops oj y s/\Xa P Gl ops oi x (Zb oj y s)/\Zb oi x (Zb oj y s)=Zb oj y (Zb oi x s):=by
 obtain ⟨a1,a2,a3⟩:=Oper.apart_spec hap;have ej:∀ z∈oj.op.operands,(Zb oi x s).ev z=s.ev z:=fun z hz=>by
  unfold Zb; rw [Jt4 (fun d hd=>Jhp (a1 d hd) hz),Jvd]
 have ei:∀ z∈oi.op.operands,(Zb oj y s).ev z=s.ev z:=fun z hz=>by
  unfold Zb; rw [Jt4 (fun d hd=>Jhp (a3 d hd) hz),Jvd]
 have gj:=Jwk (s:=s) (x:=x) (o:=oj) (o':=oi) a1;have gi:=Jwk (s:=s) (x:=y) (o:=oi) (o':=oj) a3;have Fy:∀ (o:Oper) (z:PV×Eff),z.2=.none->(Zb o z s).H=s.H/\(Zb o z s).T=s.T/\(Zb o z s).X=s.X:=fun o z hz=>by
  unfold Zb; rw [hz]; exact PSt.put_H _ _ _
 have fin:x.2.app (y.2.app s)=y.2.app (x.2.app s)->Zb oi x (Zb oj y s)=Zb oj y (Zb oi x s):=fun h=>by
  unfold Zb;rw [Kbn,Kbn,h,Jt5 a2]
 unfold Xa at hi hj ⊢;rw [gj] at hj;rw [gi];rcases hi with ⟨g1,h1⟩|⟨g1,rfl⟩
 ·rcases hj with ⟨g2,h2⟩|⟨g2,rfl⟩
  ·obtain ⟨k1,k2,k3⟩:=PM.swap hap hcm h1 h2;exact ⟨.inl ⟨g2,k1⟩,.inl ⟨g1,k2⟩,fin k3⟩
  ·obtain ⟨q1,q2,q3⟩:=Fy oj (.tup [],.none) rfl;exact ⟨.inr ⟨g2,rfl⟩,.inl ⟨g1,h1.congr ei q1 q2 q3⟩,fin rfl⟩
 ·rcases hj with ⟨g2,h2⟩|⟨g2,rfl⟩
  ·obtain ⟨q1,q2,q3⟩:=Fy oi (.tup [],.none) rfl;exact ⟨.inl ⟨g2,h2.congr (fun z hz=>(ej z hz).symm) q1.symm q2.symm q3.symm⟩,.inr ⟨g1,rfl⟩,fin rfl⟩
  ·exact ⟨.inr ⟨g2,rfl⟩,.inr ⟨g1,rfl⟩,fin rfl⟩
def dep(md:Region.Mode)(ops:Array Oper)(i:Nat):Nat->Nat->Bool
 | 0,_=>false
 | n+1,j=>match ops[j]? with
  | some o=>o.after.any fun e=>Region.binds md e&&(e.on == i||dep md ops i n e.on)
  | none=>false
def Jqz(md:Region.Mode)(ops:Array Oper)(listed:Array Bool):Prop:=∀ i j n,listed.getD i true=false->listed.getD j false=true->dep md ops i n j=false
theorem Jzg{l:Array Bool}{i:Nat}(h:l.getD i true=false):l.getD i false=false:=by
 rcases Nat.lt_or_ge i l.size with h'|h'
 ·simp [h'] at h ⊢; exact h
 ·simp [Array.getElem?_eq_none h'] at h
theorem Jsp{listed:Array Bool}{i j:Nat}(hI:Jqz md ops listed)(hj:j∈Region.ready md ops listed)(hi:listed.getD i true=false):∀ n,dep md ops i n j=false
 | 0=>rfl
 | n+1=>by
  obtain ⟨_,oj,hoj,hall⟩:=mem_ready.1 hj;simp only [dep,hoj];rw [Array.any_eq_false'];intro e he hb;simp only [aI,bP,beq_iff_eq] at hb;have h1:=hall e he hb.1;rcases hb.2 with h2|h2
  ·rw [h2,Jzg hi] at h1; cases h1
  ·rw [hI i e.on n hi h1] at h2; cases h2
theorem Jqz.list{listed:Array Bool}{j:Nat}(hI:Jqz md ops listed)(hj:j∈Region.ready md ops listed):Jqz md ops (listed.setIfInBounds j true):=by
 intro i k n hi hk
 by_cases hij:j=i
 ·subst hij;rcases Nat.lt_or_ge j listed.size with h'|h'
  ·simp [cW,h'] at hi
  ·simp [cW] at hi
 ·rw [getD_set_ne true hij] at hi
  by_cases hjk:j=k
  ·subst hjk; exact Jsp hI hj hi n
  ·rw [getD_set_ne false hjk] at hk;exact hI i k n hi hk
theorem Jpr{Q:PSt->Prop}{i:Nat}{oi:Oper}{x:PV×Eff}(hi:ops[i]? = some oi):∀ (fuel:Nat) (listed:Array Bool) (s:PSt),Jqz md ops listed ->
  (∀ j oj,ops[j]? = some oj->j≠i->listed.getD j true=false->(∀ n,dep md ops i n j=false)->oi.apart ops oj=true/\Jqi (Zv oi.op) (Zv oj.op)=true) ->
   i∈Region.ready md ops listed->Xa P Gl ops oi x s->Jq4 P Gl md ops Q fuel (listed.setIfInBounds i true) (Zb oi x s)->Jq4 P Gl md ops Q (fuel+1) listed s:=by
 intro fuel;induction fuel with
 | zero=>
  intro listed s _ _ hr hy Hh;refine ⟨fun h=>(by rw [h] at hr; cases hr),fun j hj=>?_⟩
  by_cases hji:j=i
  ·subst hji; exact ⟨oi,hi,Jel.2 ⟨x,hy,Hh⟩⟩
  ·have:=ready_mono hj hji;rw [Hh.1] at this;cases this
 | succ fuel ih=>
  intro listed s hI hfree hr hy Hh;refine ⟨fun h=>(by rw [h] at hr; cases hr),fun j hj=>?_⟩
  by_cases hji:j=i
  ·subst hji; exact ⟨oi,hi,Jel.2 ⟨x,hy,Hh⟩⟩
  ·obtain ⟨oj',hoj',h1⟩:=Hh.2 j (ready_mono hj hji);obtain ⟨hjun,oj,hoj,hall⟩:=mem_ready.1 hj;rw [hoj] at hoj';have hjj:=cY hoj';subst hjj;have hnot:=Jsp hI hj (mem_ready.1 hr).1;obtain ⟨hap,hcm⟩:=hfree j oj hoj hji hjun hnot;obtain ⟨y,hyj,hK⟩:=Jel.1 h1;obtain ⟨k1,k2,k3⟩:=Xa.swap hap hcm hy hyj;refine ⟨oj,hoj,Jel.2 ⟨y,k1,ih (listed.setIfInBounds j true) _ (hI.list hj) (fun k ok hk hki hun hno=>?_) (ready_mono hr (Ne.symm hji)) k2 ?_⟩⟩
   ·refine hfree k ok hk hki ?_ hno
    by_cases hjk:j=k
    ·subst hjk; exact hjun
    ·rw [getD_set_ne true hjk] at hun; exact hun
   ·rw [k3,Array.setIfInBounds_comm _ _ hji];exact hK
def Kkx(ms:List Nat)(es:List Edge):Nat:=es.foldl (fun acc e=>if Region.binds .any e=true then (acc ||| (1 <<< e.on)) ||| ms.getD e.on 0 else acc) 0
def Jpe : List Oper->List Nat->List Nat
 | [],ms=>ms
 | o::r,ms=>Jpe r (ms++[Kkx ms o.after.toList])
def Joh(ops:Array Oper)(ms:List Nat):Prop:=∀ (j m i:Nat),ms[j]? = some m->m.testBit i=true->∃ n,dep .any ops i n j=true
theorem Jmz{ops:Array Oper}{ms:List Nat}(hm:Joh ops ms):∀ (es:List Edge) (acc i:Nat),(es.foldl (fun acc e=>if Region.binds .any e=true then (acc ||| (1 <<< e.on)) ||| ms.getD e.on 0 else acc) acc).testBit i=true->acc.testBit i=true\/∃ e∈es,Region.binds .any e=true/\(e.on=i\/∃ n,dep .any ops i n e.on=true)
 | [],acc,i,h=>.inl h
 | e::es,acc,i,h=>by
  rw [fB] at h;rcases Jmz hm es _ i h with h1|⟨e',h2,h3⟩
  ·by_cases hb:Region.binds .any e=true
   ·rw [if_pos hb,Nat.testBit_or,Nat.testBit_or,bP,bP] at h1;rcases h1 with (h1|h1)|h1
    ·exact .inl h1
    ·refine .inr ⟨e,by simp,hb,.inl ?_⟩;rw [Nat.testBit_shiftLeft] at h1;simp only [aI,decide_eq_true_eq] at h1;have h2:=h1.2
     by_cases hz:i - e.on=0
     ·omega
     ·obtain ⟨q,hq⟩:=eQ hz;rw [hq,Nat.testBit_succ] at h2;simp at h2
    ·cases hms:ms[e.on]? with
     | none=>rw [List.getD,hms] at h1; simp at h1
     | some m=>
      rw [List.getD,hms] at h1;exact .inr ⟨e,by simp,hb,.inr (hm e.on m i hms h1)⟩
   ·rw [if_neg hb] at h1; exact .inl h1
  ·exact .inr ⟨e',by simp [h2],h3⟩
theorem Ji2{ops:Array Oper}:∀ (l:List Oper) (ms:List Nat),Joh ops ms->(∀ j,l[j]? = ops[ms.length+j]?)->Joh ops (Jpe l ms)
 | [],ms,hm,_=>hm
 | o::l,ms,hm,hl=>by
  rw [Jpe];refine Ji2 l _ (fun j m i hj hi=>?_) fun j=>?_
  ·rw [aU] at hj
   by_cases hlt:j<ms.length
   ·rw [if_pos hlt] at hj; exact hm j m i hj hi
   ·rw [if_neg hlt] at hj;have hj0:j - ms.length=0:=by
     have:=(aG.1 hj).1;simp at this; omega
    rw [hj0] at hj;simp only [eL,aP] at hj;subst hj;have hjl:j=ms.length:=by omega
    subst hjl;have ho:ops[ms.length]? = some o:=by rw [<- cU ms.length,<- hl 0]; rfl
    rcases Jmz hm o.after.toList 0 i hi with h1|⟨e,h2,h3,h4⟩
    ·simp at h1
    ·rcases h4 with h4|⟨n,h4⟩
     ·refine ⟨1, ?_⟩;simp only [dep,ho,Array.any_eq_true'];exact ⟨e,by simpa using h2,by simp [h3,h4]⟩
     ·refine ⟨n+1, ?_⟩;simp only [dep,ho,Array.any_eq_true'];exact ⟨e,by simpa using h2,by simp [h3,h4]⟩
  ·have:=hl (j+1);rw [dI] at this;rw [this,aH,cC];congr 1; omega
def Jxa(ms:List Nat)(ops:Array Oper)(listed:Array Bool)(i:Nat):Bool :=
 match ops[i]? with
 | none=>false
 | some oi=>(List.range ops.size).all fun j=>j == i||listed.getD j true||match ops[j]? with
   | some oj=>(ms.getD j 0).testBit i||(oi.apart ops oj&&Jqi (Zv oi.op) (Zv oj.op))
   | none=>true
theorem Joz{ms:List Nat}(hms:Joh ops ms){i:Nat}{oi:Oper}{listed:Array Bool}(hi:ops[i]? = some oi)(h:Jxa ms ops listed i=true)(j:Nat)(oj:Oper)(hj:ops[j]? = some oj)(hne:j≠i)(hun:listed.getD j true=false)(hno:∀ n,dep .any ops i n j=false) :
  oi.apart ops oj=true/\Jqi (Zv oi.op) (Zv oj.op)=true:=by
 simp only [Jxa,hi,aK,List.mem_range] at h;have h1:=h j (dX.1 hj).1;simp only [hj,bP,beq_iff_eq,hne,false_or,hun,aQ,aI] at h1;rcases h1 with h1|h1
 ·cases hm:ms[j]? with
  | none=>rw [List.getD,hm] at h1; simp at h1
  | some m=>
   rw [List.getD,hm] at h1;obtain ⟨n,hn⟩:=hms j m i hm h1;rw [hno] at hn; cases hn
 ·exact h1
def Kcg(ms:List Nat)(ops:Array Oper):Nat->Nat->Array Bool->Bool
 | 0,_,listed=>(Region.ready .any ops listed).isEmpty
 | fuel+1,k,listed=>(Region.ready .any ops listed).contains k&&Jxa ms ops listed k&&Kcg ms ops fuel (k+1) (listed.setIfInBounds k true)
theorem Jcv{gd:Gd}{y y' n:Prop}(hy:y->y')(h:Be gd s y n):Be gd s y' n:=by
 cases gd with
 | always=>exact hy h
 | never=>exact h
 | bad=>exact h
 | slot t w=>
  simp only [Be] at h ⊢;split
  ·rename_i b hb;simp only [hb] at h;exact ⟨fun e=>hy (h.1 e),h.2⟩
  ·rename_i hu;simp only [hu] at h;exact h
  ·rename_i hne hnu;split at h
   ·rename_i b hb; exact absurd hb (hne _)
   ·rename_i hu; exact absurd hu hnu
   ·exact h
theorem Jw1{Q:PSt->Prop}{ms:List Nat}(hms:Joh ops ms):∀ (l:List Oper) (k:Nat) (listed:Array Bool) (s:PSt),Jqz .any ops listed->(∀ j,l[j]? = ops[k+j]?) ->
  Kcg ms ops l.length k listed=true->Jy P Gl true (l.map fun o=>(o,Jd0 ops o)) s Q->Jq4 P Gl .any ops Q l.length listed s
 | [],_,_,_,_,_,hB,h=>⟨by simpa [Kcg] using hB,h⟩
 | o::l,k,listed,s,hI,hl,hB,h=>by
  have h0:ops[k]? = some o:=by simpa using (hl 0).symm
  simp only [aE,Kcg,aI] at hB;obtain ⟨⟨hr,hf⟩,hB'⟩:=hB;have hr':k∈Region.ready .any ops listed:=by simpa using hr
  simp only [bT,Jy] at h;obtain ⟨x,hy,hK⟩:=Jel.1 (show gOp P Gl ops o (fun s'=>Jy P Gl true (l.map fun o=>(o,Jd0 ops o)) s' Q) s from Jcv (y:=Jat P Gl true o s fun s'=>Jy P Gl true (l.map fun o=>(o,Jd0 ops o)) s' Q) (fun q=>Or.resolve_right q fun e=>(by cases e.1)) h);exact Jpr h0 l.length listed s hI (Joz hms h0 hf) hr' hy
   (Jw1 hms l (k+1) _ _ (hI.list hr') (fun j=>by have:=hl (j+1); simpa [Nat.add_assoc,Nat.add_comm 1 j] using this) hB' hK)
theorem Jqz.none(n:Nat):Jqz md ops (Array.replicate n false):=by
 intro i j m _ hj;rcases Nat.lt_or_ge j n with h'|h'
 ·simp [cW,h'] at hj
 ·simp [cW,h'] at hj
theorem Kex{Q:Exit->PSt->Prop}{id:Nat}(hm:P.follows .mixedOrders=true)(hB:Kcg (Jpe ops.toList []) ops ops.size 0 (Array.replicate ops.size false)=true)(h:Jy P Gl true (Jeg ops) s (Up (Q .normal))) :
  pwp P Gl (.region id ops true) Q s:=fun S0 w0 a w hi=>by
 have hA:=Jw1 (Q:=Up (Q .normal)) (Ji2 ops.toList [] (fun j m i hj=>by simp at hj) sG) ops.toList 0 (Array.replicate ops.size false) s (Jqz.none _) sG (by simpa using hB) h;obtain ⟨g,rfl,hg⟩:=hi;refine wp_region_any hm ?_;have:=Jeb (S0:=S0) (w0:=w0) (P:=P) (Gl:=Gl) (Q':=fun e a' w'=>∃ s',Q e s'/\Inv Gl S0 w0 s' a' w') (fun s' a' w' q i=>let ⟨s2,h1,h2⟩:=q; ⟨s2,h2,i.fade h1⟩) ops.toList.length (Array.replicate ops.size false) s a _ ⟨_,rfl,hg.drew.1⟩ hA
 simpa using this
end
end PM
namespace PM
open Go Go.RowKit
def w64(n:Int):Int:=IntKind.i64.wrap n
def Vm{α β:Type}(f:α->Option β)(o:α⊕β):Option β:=match o with|.inl v=>f v|.inr b=>some b
def onInl{α β:Type}(D:Option (α⊕β))(f:α->Option β):Option β:=D.bind (Vm f)
section
variable {α β σ:Type}
theorem Ki0{D:Option (α⊕β)}{f:α->Option β}{r:β}(h:onInl D f=some r):∃ o,D=some o/\Vm f o=some r:=Ve h
variable {P:Program} {Gl:GL} {s:PSt} {Q:Exit->PSt->Prop} {n k:Nat}
def Wkr(s s':PSt):Prop:=∀ (Gl:GL) (S0:Bs) (w0:World) (a:Act) (w:World),Inv Gl S0 w0 s a w->Inv Gl S0 w0 s' a w
theorem Wkr.of{j:JS}(hok:j.ok=true)(h:j.seen s=j.told n):Wkr s (j.st n):=fun _ _ _ _ _ hi=>hi.weak (JS.weaker hok h)
theorem Wkr.trans{s1 s2 s3:PSt}(h:Wkr s1 s2)(h':Wkr s2 s3):Wkr s1 s3:=fun Gl S0 w0 a w hi=>h' Gl S0 w0 a w (h Gl S0 w0 a w hi)
theorem Qk{s':PSt}{c:Code}(hw:Wkr s s')(h:pwp P Gl c Q s'):pwp P Gl c Q s:=fun S0 w0 a w hi=>h S0 w0 a w (hw Gl S0 w0 a w hi)
def Kdl(J:α->JS)(n:Nat)(Q:Exit->PSt->Prop)(o:α⊕β)(e:Exit)(s':PSt):Prop :=
 match o with
 | .inl v=>e=.normal/\Wkr s' ((J v).st n)
 | .inr _=>e≠.normal/\Q e s'
section
variable {J:α->JS} {v:α} {b:β}
theorem Kkf{x y:Code}{o:α⊕β}(n:Nat)(J:α->JS)(h1:pwp P Gl x (Kdl J n Q o) s)(h2:∀ v,o=.inl v->pwp P Gl y Q ((J v).st n)):pwp P Gl (.seq x y) Q s:=by
 refine Kj (Xs (fun e s' hp=>?_) h1);cases o with
 | inl v=>
  obtain ⟨rfl,h3⟩:=hp;exact Qk h3 (h2 v rfl)
 | inr b=>
  obtain ⟨h3,h4⟩:=hp;cases e <;> first|exact absurd rfl h3|exact h4
end
def Kce(J:σ->JS)(J0:α->JS)(n id:Nat)(Q:Exit->PSt->Prop)(r:α⊕β)(o:σ⊕(α⊕β))(e:Exit)(s':PSt):Prop :=
 match o with
 | .inl v'=>e=.normal/\(J v').seen s'=(J v').told n
 | .inr (.inl v)=>e=.exit id/\Wkr s' ((J0 v).st n)
 | .inr (.inr b)=>.inr b=r->e≠.normal/\Q e s'
section
variable {J:σ->JS} {J0:α->JS} {id:Nat} {v':σ} {v:α} {b:β} {r:α⊕β}
theorem Kh0{step:σ->Option (σ⊕(α⊕β))}{v:σ}{c:Code}(n id:Nat)(J:σ->JS)(J0:α->JS)(hl:Jp step v=some r)(h0:(J v).seen s=(J v).told n)(hok:∀ v,(J v).ok=true)(hb:∀ v o,step v=some o->pwp P Gl c (Kce J J0 n id Q r o) ((J v).st n))(h2:∀ v s',r=.inl v->Wkr s' ((J0 v).st n)->Q (.exit id) s'):pwp P Gl (.loop c) Q s:=by
 refine Kkp n J hl h0 hok fun v o hv=>Xs (fun e s' hp=>?_) (hb v o hv);rcases o with v'|v|b
 ·exact hp
 ·obtain ⟨he,hq⟩:=hp;subst he;exact fun e=>⟨by simp,h2 v s' e.symm hq⟩
 ·exact hp
end
section
variable {d:Bool} {L:List (Oper×Gd)} {Q:PSt->Prop}
theorem Jcb(m t:Nat)(E:Bool)(h1:∀ x,E=x->Jy P Gl d (L.take m) s fun s'=>Yg s' (Wq m t (.bool x) L s))(h2:Jy P Gl d (L.drop m) (Wq m t (.bool E) L s) (Up Q)):Jy P Gl d L s (Up Q):=Kfu m t _ (h1 E rfl) h2
theorem Kjh{s1:PSt}(m t:Nat)(v:PV)(h1:Jy P Gl d (L.take m) s fun s'=>Yg s' (Wq m t v L s))(h2:Jy P Gl d (L.drop m) (Wq m t v L s) fun s'=>Yg s' s1):Jy P Gl d L s fun s'=>Yg s' s1 :=
 Lo (fun _ hu=>let ⟨_,h3,h4⟩:=hu; h3.trans h4) _ _ (Kfu (Q:=fun s'=>Yg s' s1) m t v h1 (Lo (fun _ h=>.intro h) _ _ h2))
theorem Kfm{s1:PSt}(m t:Nat)(E:Bool)(h1:∀ x,E=x->Jy P Gl d (L.take m) s fun s'=>Yg s' (Wq m t (.bool x) L s))(h2:Jy P Gl d (L.drop m) (Wq m t (.bool E) L s) fun s'=>Yg s' s1):Jy P Gl d L s fun s'=>Yg s' s1:=Kjh m t _ (h1 E rfl) h2
end
theorem Kh.reput{S0:Bs}{w0:World}{a:Act}{g:GG}(h:Kh Gl S0 w0 s a g)(i:Nat){p:PV}(hv:Rel g p (a.tmps.getD i undef)):Kh Gl S0 w0 (s.put (some i) p) a g:=by
 have hl:=h.len.1
 by_cases hi:i+s.m<s.tm.length
 ·rw [s.put_in p hi];refine { h with hH:=h.hH,hT:=h.hT,len:=⟨by simpa using hl,h.len.2⟩,tm:=fun j q u hq hu=>?_ };simp only [cO] at hq
  by_cases hij:i=j
  ·subst hij;rw [if_pos rfl] at hq;split at hq
   ·cases hq;rw [bM (by rw [bJ]; omega),cB] at hu
    rwa [cW,hu] at hv
   ·cases hq
  ·rw [if_neg hij] at hq; exact h.tm j q u hq hu
 ·rw [s.put_out p hi]; exact h
theorem Kh.nilOwn{S0:Bs}{w0:World}{a:Act}{g:GG}(h:Kh Gl S0 w0 s a g){i t k b:Nat}(hs:s.get i=.nil)(hT:((s.T t).isNone&&(k != 0))=true) :
  ∃ g',Kh Gl S0 w0 (({ s with T:=upd s.T t (some (0,k)) }:PSt).put (some i) (.lst (.own t) k b [])) a g'/\g'.w=g.w:=by
 have hv:a.tmps.getD i undef=.slice none 0 0:=by
  have:=h.get i;rw [hs] at this
  simpa [Rel,Ks,Kk,Jv] using this
 obtain ⟨h1,h2⟩:=h.setTok (t:=t) (n:=0) (k:=k) (v:=.slice none 0 0) (fun n0 k0 e=>by rw [h.hT] at e; rw [e] at hT; cases hT) (fun e=>by subst e; simp at hT) (fun g' _ _ e=>.inl ⟨.inl e,rfl⟩) (fun B off cap e _=>by cases e) (h.noX fun n e=>by rw [h.hT] at e; rw [e] at hT; cases hT);refine ⟨_,h1.reput i ?_,rfl⟩;rw [hv];simp only [Rel,Ks,Kk,Jv,aF];exact ⟨⟨by simp,by simp,.inl trivial,.inl ⟨.inl rfl,trivial⟩⟩,0,Kr _ _ _,aJ _,fun _=>by simp⟩
theorem Wz{c:Code}(i t k b:Nat)(hs:s.get i=.nil)(hT:((s.T t).isNone&&(k != 0))=true)(h:pwp P Gl c Q (({ s with T:=upd s.T t (some (0,k)) }:PSt).put (some i) (.lst (.own t) k b []))):pwp P Gl c Q s:=fun S0 w0 a w hi=>by
 obtain ⟨g,rfl,hg⟩:=hi;obtain ⟨g',h1,h2⟩:=hg.nilOwn (k:=k) (b:=b) hs hT;exact h S0 w0 a _ ⟨g',h2,h1⟩
end
end PM
namespace PM
open Go Go.RowKit
section
variable {α:Type} [Enc α] {P:Program} {Gl:GL} {s:PSt} {d:Bool} {Ls:List (Oper×Gd)} {Q:PSt->Prop}
omit [Enc α] in
theorem Jo3{L:List α}{i:Int}{y:α}(h:ixO L i=some y):0<=i/\L[i.toNat]? = some y/\i.toNat<L.length:=by
 unfold ixO at h;split at h
 ·rename_i h0;exact ⟨h0,h,(aG.1 h).1⟩
 ·cases h
def Kem(g m k:Nat)(n:Int):Option (PV×Eff):=(if 0<=n/\n<(m:Int) then some (PV.gptr g (0+n.toNat * k)) else none).map fun v=>(v,Eff.none)
omit [Enc α] in
theorem Kll{tab:List α}{i:Int}{y:α}(hy:ixO tab i=some y)(g m k:Nat)(hm:tab.length=m)(h:Nb P Gl Ls s=Kem g m k i)(h2:Jy P Gl d (Ls.drop 1) (s.put (Uk Ls) (.gptr g (0+i.toNat * k))) Q):Jy P Gl d Ls s Q:=by
 refine Cu (e:=.none) ?_ h2;obtain ⟨h0,_,h1⟩:=Jo3 hy;rw [h];unfold Kem;rw [if_pos ⟨h0,by omega⟩]; rfl
theorem Jsk{tab:List α}{k:Nat}(hk:tab.all (fun x=>(cellsOf x).length == k)=true):∀ {i:Nat} {y:α},tab[i]? = some y->∃ r,(tab.flatMap cellsOf).drop (i * k)=cellsOf y++r:=by
 induction tab with
 | nil=>intro i y h; simp at h
 | cons x xs ih=>
  simp only [List.all_cons,aI,beq_iff_eq] at hk;intro i y h;cases i with
  | zero=>
   simp only [eL,aP] at h;subst h;exact ⟨xs.flatMap cellsOf,by simp⟩
  | succ i=>
   simp only [dI] at h;obtain ⟨r,hr⟩:=ih hk.2 h;refine ⟨r, ?_⟩;rw [dY,List.drop_append,cZ (by rw [hk.1,bU]; omega),hk.1,bU,dQ,hr,cX]
def Jts(row:Bool)(n:Nat)(cs:List PV):Option (PV×Eff):=(match row with|true=>if n<=cs.length then some (PV.agg (Jki n cs)) else none|false=>cs.head?).map fun v=>(v,Eff.none)
theorem Ju6{k:Nat}{c r:List PV}(h:c.length=k):Jki k (c++r)=c:=by
 unfold Jki;split
 ·rename_i h1;rw [aH] at h1;have:r=[]:=aO oG;rw [this,bE]
 ·rw [<- h]; simp
theorem Khz{tab:List α}{i:Int}{y:α}(hy:ixO tab i=some y)(row:Bool){k o:Nat}(hk0:k≠0)(ho:o=i.toNat * k)(hk:tab.all (fun x=>(cellsOf x).length == k)=true)(hp:(if row=true then PV.agg (cellsOf y) else (cellsOf y).headD .any)=Enc.pv y):Jts row k ((tab.flatMap cellsOf).drop o)=some (Enc.pv y,.none):=by
 obtain ⟨_,h1,_⟩:=Jo3 hy;obtain ⟨r,hr⟩:=Jsk hk h1;have hl:(cellsOf y).length=k:=by
  have:=aK.1 hk y (aC h1)
  simpa using this
 rw [ho,hr];unfold Jts;cases row with
 | true=>
  simp only [if_true] at hp;simp only [Ju6 hl];rw [if_pos (by rw [aH]; omega),hp]; rfl
 | false=>
  simp only [aQ,if_false] at hp;cases hc:cellsOf y with
  | nil=>rw [hc] at hl; exact absurd hl.symm hk0
  | cons a b=>rw [hc] at hp; simp at hp; simp [hp]
theorem Kh6{tab:List α}{i:Int}{y:α}(hy:ixO tab i=some y)(row:Bool)(k:Nat)(hk:(k != 0&&tab.all fun x=>(cellsOf x).length == k)=true)(h:Nb P Gl Ls s=Jts row k ((tab.flatMap cellsOf).drop (0+i.toNat * k)))(hp:(if row=true then PV.agg (cellsOf y) else (cellsOf y).headD .any)=Enc.pv y)(h2:Jy P Gl d (Ls.drop 1) (s.put (Uk Ls) (Enc.pv y)) Q):Jy P Gl d Ls s Q:=by
 simp only [aI,bne_iff_ne,ne_eq] at hk;refine Cu (e:=.none) ?_ h2;rw [h];exact Khz hy row hk.1 oG hk.2 hp
def Kew(row:Bool)(m k:Nat)(cs:List PV)(n:Int):Option (PV×Eff):=(match row with
 | true=>if 0<=n/\n<(m:Int)/\n.toNat * k+k<=cs.length then some (PV.agg ((cs.drop (n.toNat * k)).take k)) else none
 | false=>if 0<=n/\n<(m:Int) then cs[n.toNat * k]? else none).map fun v=>(v,Eff.none)
theorem Kln{tab:List α}{i:Int}{y:α}(hy:ixO tab i=some y)(row:Bool)(m k:Nat)(hk:(k != 0&&tab.all fun x=>(cellsOf x).length == k)=true)(hm:tab.length=m)(h:Nb P Gl Ls s=Kew row m k (tab.flatMap cellsOf) i)(hp:(if row=true then PV.agg (cellsOf y) else (cellsOf y).headD .any)=Enc.pv y)(h2:Jy P Gl d (Ls.drop 1) (s.put (Uk Ls) (Enc.pv y)) Q):Jy P Gl d Ls s Q:=by
 simp only [aI,bne_iff_ne,ne_eq] at hk;refine Cu (e:=.none) ?_ h2;rw [h];obtain ⟨h0,h1,h3⟩:=Jo3 hy;obtain ⟨r,hr⟩:=Jsk hk.2 h1;have hl:(cellsOf y).length=k:=by
  have:=aK.1 hk.2 y (aC h1)
  simpa using this
 have hlen:i.toNat * k+k<=(tab.flatMap cellsOf).length:=by
  have:=congrArg List.length hr;rw [cI,aH,hl] at this;have:=hk.1;omega
 have hi:i<(m:Int):=by omega
 unfold Kew;cases row with
 | true=>
  simp only [if_true] at hp;simp only [hr];rw [if_pos ⟨h0,hi,hlen⟩,<- hl,List.take_left,hp]; rfl
 | false=>
  simp only [aQ,if_false] at hp;have hg:(tab.flatMap cellsOf)[i.toNat * k]? = some (Enc.pv y):=by
   rw [<- List.head?_drop,hr,<- hp];cases hc:cellsOf y with
   | nil=>rw [hc] at hl; exact absurd hl.symm hk.1
   | cons a b=>rfl
  simp only;rw [if_pos ⟨h0,hi⟩,hg]; rfl
end
theorem Yx.freeze{P:Program}{Gl:GL}{f:FuncId}{as:List PV}{r r':PV}(h:Yx P Gl f as r)(he:(Jda r,Fk r' r)=(true,r'))(hl:Hr (fun _=>none) (fun _=>none) r'=true)(ht:(Wc r').isEmpty=true):Yx P Gl f as r':=by
 simp only [aM] at he;have hwk:WkV (fun _=>none) (fun _=>none) r r':=by
  have:=Jck (p:=r') (q:=r) (H:=fun _=>none) (T:=fun _=>none) he.1 (by rw [he.2]; exact hl)
  rwa [he.2] at this
 have ht:Wc r'=[]:=by simpa using ht
 refine ⟨h.1,fun S w vs hS hG hr=>(h.2 S w vs hS hG hr).mono fun e w' ⟨v,g',he,hw,ha⟩=>⟨v,{ g' with H:=fun _=>none,T:=fun _=>none },he,hw, ?_⟩⟩;refine { below:=ha.below,sub:=ha.sub,new:=ha.new,H:=fun _=>rfl,T:=fun t n k=>?_,rel:=ha.rel.weak ⟨fun _ _ h=>(by cases h),fun l cs _ h=>(by cases h)⟩ hwk,owns:=fun t n k h=>(by cases h),ownsEx:=fun t t' B h=>by obtain ⟨n,k,off,cap,h1,_⟩:=h; cases h1 };rw [ht]; simp
def Jjs(x:Option Int)(dflt:Nat):Option Nat :=
 match x with
 | none=>some dflt
 | some n=>if 0<=n then some n.toNat else none
def slO{α:Type}(L:List α)(lo hi mx:Option Int):Option (List α) :=
 match Jjs lo 0,Jjs hi L.length,Jjs mx L.length with
 | some l,some h,some m=>if l<=h/\h<=m/\m<=L.length then some ((L.take h).drop l) else none
 | _,_,_=>none
def pvI : Option Int->Option PV
 | none=>none
 | some n=>some (.int .i64 n)
theorem Kak(x:Option Int)(n:Nat):bnd (pvI x) n=Jjs x n:=by cases x <;> rfl
def Jzv(P:Program):List (Oper×Gd)->PSt->Option (Nat×PV×Option PV×Option PV×Option PV)
 | (o,.always)::_,s=>match o.op with
  | .slice t x lo hi mx=>match Jb9 P t with
   | some (_,_,k,_)=>some (k,s.ev x,lo.map s.ev,hi.map s.ev,mx.map s.ev)
   | none=>none
  | _=>none
 | _,_=>none
section
variable {α:Type} [Enc α] {P:Program} {Gl:GL} {s:PSt} {d:Bool} {Ls:List (Oper×Gd)} {Q:PSt->Prop}
def Jsa(o:Own)(hi mx:Option Int)(n:Nat):Own:=if (pvI mx≠none/\Jjs mx n=Jjs hi n)\/(o=.full/\pvI hi=none) then .full else .frozen
theorem Kar{L M:List α}{lo hi mx:Option Int}(o:Own)(hM:slO L lo hi mx=some M)(hmx:(mx.isSome&&hi.isNone)=false)(h:Jzv P Ls s=some (Enc.k α,Ji o L,pvI lo,pvI hi,pvI mx)):Nb P Gl Ls s=some (Ji (Jsa o hi mx L.length) M,.none):=by
 unfold Jzv at h;split at h
 ·rename_i oo rest s;split at h
  ·rename_i t x lo' hi' mx' hop;split at h
   ·rename_i e row k' b' hel;simp only [aP,aM] at h;obtain ⟨rfl,hx,hlo,hhi,hmx'⟩:=h;simp only [Nb,hop,Vx,evO,Cg,aQ,if_false,ev1,hx,hlo,hhi,hmx',Ji,Ja9,hel,Kak,aV];unfold slO at hM;split at hM
    ·rename_i l h1 m e1 e2 e3;rw [e1,e2,e3];split at hM
     ·rename_i hc;cases hM;simp only;rw [if_pos ⟨trivial,hc.1,hc.2.1,hc.2.2,by cases mx <;> cases hi <;> simp_all [pvI]⟩];simp only [bH,Jsa,e2,e3,List.map_drop,eY,aP]
     ·cases hM
    ·cases hM
   ·cases h
  ·cases h
 ·cases h
theorem Jxb{L M:List α}{lo hi mx:Option Int}(hM:slO L lo hi mx=some M)(o:Own)(hmx:(mx.isSome&&hi.isNone)=false)(h:Jzv P Ls s=some (Enc.k α,Ji o L,pvI lo,pvI hi,pvI mx))(hf:(mx.isNone&&(match o with|.full=>hi.isSome|_=>true))=true)(h2:Jy P Gl d (Ls.drop 1) (s.put (Uk Ls) (Ji .frozen M)) Q):Jy P Gl d Ls s Q:=by
 refine Cu (e:=.none) (Kar o hM hmx h) ?_;have:Jsa o hi mx L.length=.frozen:=by
  simp only [aI] at hf;unfold Jsa;rw [if_neg];rintro (⟨h1,_⟩|⟨h1,h3⟩)
  ·cases mx <;> simp_all [pvI]
  ·subst h1;cases hi <;> simp_all [pvI]
 rw [this]; exact h2
theorem Kiz{L M:List α}{lo hi mx:Option Int}(hM:slO L lo hi mx=some M)(o:Own)(hmx:(mx.isSome&&hi.isNone)=false)(h:Jzv P Ls s=some (Enc.k α,Ji o L,pvI lo,pvI hi,pvI mx))(hf:(mx.isSome=true/\mx=hi)\/(o=.full/\hi=none))(h2:Jy P Gl d (Ls.drop 1) (s.put (Uk Ls) (Ji .full M)) Q):Jy P Gl d Ls s Q:=by
 refine Cu (e:=.none) (Kar o hM hmx h) ?_;have:Jsa o hi mx L.length=.full:=by
  unfold Jsa;rw [if_pos];rcases hf with ⟨h1,h3⟩|⟨h1,h3⟩
  ·subst h3;refine .inl ⟨?_,rfl⟩;cases mx <;> simp_all [pvI]
  ·subst h3;exact .inr ⟨h1,rfl⟩
 rw [this]; exact h2
end
end PM
namespace PM
open Go Go.RowKit
class Key (κ:Type) extends Enc κ where
 deq:DecidableEq κ
 keq:∀ a b:κ,Jes (pv a) (pv b)=some (decide (a=b))
instance {κ:Type}[Key κ]:DecidableEq κ:=Key.deq
instance : Key Int:={ (inferInstance:Enc Int) with deq:=inferInstance,keq:=fun _ _=>rfl }
instance : Key ByteArray:={ (inferInstance:Enc ByteArray) with deq:=inferInstance,keq:=fun _ _=>rfl }
section
variable {κ ν:Type} [Key κ] [Enc ν]
def Zj(m:List (κ×ν)):List (PV×PV):=m.map fun e=>(Enc.pv e.1,Enc.pv e.2)
def Ye(m:List (κ×ν))(k:κ):Option ν:=(m.find? fun e=>decide (k=e.1)).map (·.2)
def Hv(k:κ)(v:ν):List (κ×ν)->List (κ×ν)
 | []=>[(k,v)]
 | e::es=>if k=e.1 then (k,v)::es else e::Hv k v es
theorem Jjg(k:κ):∀ m:List (κ×ν),Jgd (Enc.pv k) (Zj m)=some ((Ye m k).map Enc.pv)
 | []=>rfl
 | e::es=>by
  have ih:=Jjg k es;unfold Zj Ye at ih ⊢;simp only [bT,Jgd,Key.keq,dW]
  by_cases h:k=e.1
  ·simp [h]
  ·simp only [h,decide_false];exact ih
theorem Kbu(k:κ)(v:ν):∀ m:List (κ×ν),Jfm (Enc.pv k) (Enc.pv v) (Zj m)=some (Zj (Hv k v m))
 | []=>rfl
 | e::es=>by
  have ih:=Kbu k v es;unfold Zj at ih ⊢;simp only [bT,Jfm,Key.keq,Hv]
  by_cases h:k=e.1
  ·simp [h]
  ·simp only [h,decide_false,if_false,bT,ih,bH]
def Khx(P:Program):List (Oper×Gd)->PSt->Option (Nat×PV×PV×Bool)
 | (o,.always)::_,s=>match o.op with
  | .lookup t x k ok=>match s.ev x,Jdu P t with
   | .mp l,some (d,z)=>if Hx d (s.ev k)=true then some (l,s.ev k,Kc2 P t z,ok) else none
   | _,_=>none
  | _=>none
 | _,_=>none
def msHd(P:Program):List (Oper×Gd)->PSt->Option (Nat×PV×Option PV)
 | (o,.always)::_,s=>match o.op with
  | .mapUpdate t m k x=>match s.ev m,Jdu P t with
   | .mp l,some (d,_)=>if Hx d (s.ev k)=true then some (l,s.ev k,Oi (s.ev x)) else none
   | _,_=>none
  | _=>none
 | _,_=>none
variable {P:Program} {Gl:GL} {s:PSt} {d:Bool} {Ls:List (Oper×Gd)} {Q:PSt->Prop}
theorem Jf5{m:List (κ×ν)}{k:κ}(z:ν)(l:Nat)(hH:s.H l=some (.map (Zj m)))(h:Khx P Ls s=some (l,Enc.pv k,Enc.pv z,false))(h2:Jy P Gl d (Ls.drop 1) (s.put (Uk Ls) (Enc.pv ((Ye m k).getD z))) Q):Jy P Gl d Ls s Q:=by
 refine Cu (e:=.none) ?_ h2;unfold Khx at h;split at h
 ·rename_i o rest s;split at h
  ·rename_i t x k' ok hop;split at h
   ·rename_i l' d z' hx hm;split at h
    ·rename_i hd;simp only [aP,aM] at h;obtain ⟨rfl,hk,hz,rfl⟩:=h;simp only [Nb,hop,Vx,evO,Cg,aQ,if_false,ev1,hx,hH,Pw,hm];rw [if_pos hd,hk,Jjg,hz];simp only [bH];cases Ye m k <;> rfl
    ·cases h
   ·cases h
  ·cases h
 ·cases h
theorem Jkq{m:List (κ×ν)}{k:κ}(z:ν)(l:Nat)(hH:s.H l=some (.map (Zj m)))(h:Khx P Ls s=some (l,Enc.pv k,Enc.pv z,true))(h2:Jy P Gl d (Ls.drop 1) (s.put (Uk Ls) (.tup [Enc.pv ((Ye m k).getD z),.bool (Ye m k).isSome])) Q):Jy P Gl d Ls s Q:=by
 refine Cu (e:=.none) ?_ h2;unfold Khx at h;split at h
 ·rename_i o rest s;split at h
  ·rename_i t x k' ok hop;split at h
   ·rename_i l' d z' hx hm;split at h
    ·rename_i hd;simp only [aP,aM] at h;obtain ⟨rfl,hk,hz,rfl⟩:=h;simp only [Nb,hop,Vx,evO,Cg,aQ,if_false,ev1,hx,hH,Pw,hm];rw [if_pos hd,hk,Jjg,hz];simp only [bH,if_true];cases Ye m k <;> rfl
    ·cases h
   ·cases h
  ·cases h
 ·cases h
theorem Jiv{m:List (κ×ν)}{k:κ}{v:ν}(l:Nat)(hH:s.H l=some (.map (Zj m)))(h:msHd P Ls s=some (l,Enc.pv k,some (Enc.pv v)))(hf:Ja3 (Enc.pv v)=true)(h2:Jy P Gl d (Ls.drop 1) (({ s with H:=upd s.H l (some (.map (Zj (Hv k v m)))) }:PSt).put (Uk Ls) .any) Q):Jy P Gl d Ls s Q:=by
 refine Cu (v:=.any) (e:=.obj l (.map (Zj (Hv k v m)))) ?_ h2;unfold msHd at h;split at h
 ·rename_i o rest s;split at h
  ·rename_i t x k' y hop;split at h
   ·rename_i l' d z' hx hm;split at h
    ·rename_i hd;simp only [aP,aM] at h;obtain ⟨rfl,hk,hy⟩:=h;simp only [Nb,hop,Vx,evO,Cg,if_true,evE,hx,hH,hm,hy];rw [if_pos ⟨hd,hf⟩,hk,Kbu]
     rfl
    ·cases h
   ·cases h
  ·cases h
 ·cases h
end
section
variable {α:Type} [Enc α] {P:Program} {Gl:GL} {s:PSt} {d:Bool} {Ls:List (Oper×Gd)} {Q:PSt->Prop}
def mkO(α:Type)[Enc α](c:Int):Option (List α):=if 0<=c/\c.toNat * Enc.b α<=Js/\c.toNat<=Js then some [] else none
def mkHd(P:Program):List (Oper×Gd)->PSt->Option (Nat×Nat×Nat×PV)
 | (o,.always)::_,s=>match o.op,o.dst with
  | .makeSlice t n c,some d=>match Jhx P t,s.ev n with
   | some (_,k,b),.int _ n0=>if n0=0/\(s.T d).isNone=true then some (d,k,b,s.ev c) else none
   | _,_=>none
  | _,_=>none
 | _,_=>none
theorem Kiv{c:Int}{M:List α}(tk:Nat)(hM:mkO α c=some M)(h:mkHd P Ls s=some (tk,Enc.k α,Enc.b α,.int .i64 c))(h2:Jy P Gl d (Ls.drop 1) (({ s with T:=upd s.T tk (some ((M.map cellsOf).length,Enc.k α)) }:PSt).put (Uk Ls) (Ji (.own tk) M)) Q):Jy P Gl d Ls s Q:=by
 unfold mkO at hM;split at hM
 ·rename_i hc;cases hM;refine Cu (v:=.lst (.own tk) (Enc.k α) (Enc.b α) []) (e:=.tok tk 0 (Enc.k α)) ?_ h2;unfold mkHd at h;split at h
  ·rename_i o rest;split at h
   ·rename_i t n c' d hop hdst;split at h
    ·rename_i e k b kn n0 hk hn;split at h
     ·rename_i h1;simp only [aP,aM] at h;obtain ⟨rfl,rfl,rfl,hcv⟩:=h;have hT:s.T d=none:=by simpa using h1.2
      simp only [Nb,hop,Vx,evO,Cg,if_true,evE,hk,hdst,hn,hcv];rw [if_pos ⟨h1.1,hT⟩,if_pos hc]
     ·cases h
    ·cases h
   ·cases h
  ·cases h
 ·cases hM
def Jpf(b:ByteArray)(i:Int):Option Int:=if 0<=i then (b[i.toNat]?).map fun c=>(c.toNat:Int) else none
def Kdj(b:ByteArray)(n:Int):Option (PV×Eff):=(if (true&&decide (0<=n))=true then (b[n.toNat]?).map fun c=>PV.int .u8 c.toNat else none).map fun v=>(v,Eff.none)
theorem Joa{b:ByteArray}{i y:Int}(hy:Jpf b i=some y)(h:Nb P Gl Ls s=Kdj b i)(h2:Jy P Gl d (Ls.drop 1) (s.put (Uk Ls) (.int .u8 y)) Q):Jy P Gl d Ls s Q:=by
 refine Cu (e:=.none) ?_ h2;rw [h];unfold Jpf at hy;unfold Kdj;split at hy
 ·rename_i h0;obtain ⟨c,hc,rfl⟩:=aD.1 hy;rw [if_pos (by simpa using h0),hc]; rfl
 ·cases hy
end
section
variable {P:Program} {Gl:GL} {s:PSt} {Q:Exit->PSt->Prop} {S0:Bs} {w0:World} {a:Act} {g:GG}
def nilH(s:PSt)(l off t k b:Nat)(cs:List PV):PSt:={ s with T:=upd s.T t (some (0,k)),H:=upd s.H l (some (.cells (cs.set off (.lst (.own t) k b [])))) }
theorem Kh.nilOwnH(h:Kh Gl S0 w0 s a g){l off t k b:Nat}{cs:List PV}(hl:s.H l=some (.cells cs))(hs:cs[off]? = some .nil)(hT:((s.T t).isNone&&(k != 0))=true) :
  ∃ g',Kh Gl S0 w0 (nilH s l off t k b cs) a g'/\g'.w=g.w:=by
 have hgl:g.H l=some (.cells cs):=by rw [h.hH]; exact hl
 obtain ⟨h1,e1⟩:=h.setTok (t:=t) (n:=0) (k:=k) (v:=.slice none 0 0) (fun n0 k0 e=>by rw [h.hT] at e; rw [e] at hT; cases hT) (fun e=>by subst e; simp at hT) (fun g' _ _ e=>.inl ⟨.inl e,rfl⟩) (fun B off cap e _=>by cases e) (h.noX fun n e=>by rw [h.hT] at e; rw [e] at hT; cases hT);obtain ⟨o1,o2,o3,vs,v1,v2,v3⟩:=h1.objs l (.cells cs) hgl;obtain ⟨h2,e2⟩:=h1.setObj (l:=l) (ob':=.cells (cs.set off (.lst (.own t) k b []))) (w':=g.w) hgl ⟨rfl,rfl,rfl,rfl,fun _ _=>rfl,rfl⟩ (fun cs' e=>by cases e; exact ⟨_,rfl,by simp⟩)
  (fun g' hg' hw'=>by
   refine ⟨vs,⟨by rw [cG]; exact v1.1,fun i p v hp hv=>?_⟩,by rw [hw']; exact v2,by rw [hw']; exact v3⟩;rw [cO] at hp
   by_cases hi:off=i
   ·subst hi;rw [if_pos rfl] at hp;split at hp
    ·cases hp;have hr:=v1.2 off .nil v hs hv;have hv0:v=.slice none 0 0:=by have:=hr.1; simpa [Kk,Jv] using this
     refine ⟨?_,hr.2⟩;refine Kk.mono hg' (.lst (.own t) k b []) v ?_;rw [hv0];simp only [Kk,Jv,aF];exact ⟨⟨by simp,by simp,.inl trivial,.inl ⟨.inl rfl,trivial⟩⟩,0,Kr _ _ _,aJ _,fun _=>by simp⟩
    ·cases hp
   ·rw [if_neg hi] at hp;exact (v1.2 i p v hp hv).mono hg')
 exact ⟨_,h2,rfl⟩
theorem Rt(l off t k b:Nat){cs:List PV}(hl:s.H l=some (.cells cs))(hs:cs[off]? = some .nil)(hT:((s.T t).isNone&&(k != 0))=true):Wkr s (nilH s l off t k b cs):=fun _ _ _ _ _ hi=>by
 obtain ⟨g,rfl,hg⟩:=hi;obtain ⟨g',h1,h2⟩:=hg.nilOwnH (k:=k) (b:=b) hl hs hT;exact ⟨g',h2,h1⟩
end
def Fy(ls:List Nat)(H:Nat->Option Ue):Nat->Option Ue:=fun i=>if i∈ls then H i else none
def Kd3(l:Nat)(cs:List PV):PV->PV
 | .ref l' o=>if l'=l then .cptr (cs.drop o) else .ref l' o
 | p=>p
def frz(l:Nat)(cs:List PV)(live:PV->Bool)(p:PV):PV :=
 if live p=true then p else match p with
  | .ref l' o=>if l'=l then .cptr (cs.drop o) else .any
  | .fn f caps=>if (caps.map (Kd3 l cs)).all Kal=true then .fn f (caps.map (Kd3 l cs)) else .any
  | _=>.any
def Kbq(l:Nat)(cs:List PV)(ls:List Nat)(s:PSt):PSt:=⟨s.tm.map (frz l cs (Hr (Fy ls s.H) s.T)),Fy ls s.H,s.T,s.X,s.m⟩
section
variable {P:Program} {Gl:GL} {s:PSt} {Q:Exit->PSt->Prop} {S0:Bs} {w0:World} {a:Act} {g:GG}
theorem Kh.freeze(h:Kh Gl S0 w0 s a g){l:Nat}{cs cs':List PV}{ls:List Nat}(hl:s.H l=some (.cells cs))(hd:Iv cs=some cs')(hn:ls.contains l=false)(hlive:(ls.all fun i=>match s.H i with|some ob=>Jfb (Fy ls s.H) s.T ob|none=>true)=true) :
  ∃ g',Kh Gl S0 w0 (Kbq l cs' ls s) a g'/\g'.w=g.w:=by
 have hgl:g.H l=some (.cells cs):=by rw [h.hH]; exact hl
 obtain ⟨o1,o2,o3,vs,v1,v2,v3⟩:=h.objs l _ hgl;have hdat:=Ip v1 hd;have hkeep:∀ i ob,Fy ls s.H i=some ob->i∈ls/\g.H i=some ob:=fun i ob e=>by
  unfold Fy at e;split at e
  ·rename_i hi; rw [h.hH]; exact ⟨hi,e⟩
  ·cases e
 have hnl:l∉ls:=by simpa using hn
 have hcut:Cut g (Fy ls s.H) s.T:=⟨fun t x e=>by rw [h.hT]; exact e,fun i cs2 e hi=>by
  obtain ⟨ob,hob⟩:=aL.1 hi;obtain ⟨_,e2⟩:=hkeep i ob hob;rw [e] at e2; cases e2;exact ⟨cs2,hob,rfl⟩⟩
 let g1:GG:={ g with H:=Fy ls s.H,T:=s.T }
 let g2:GG:={ g with S:=fun B o=>g.S B o\/(B=g.φ l/\o<cs.length),H:=Fy ls s.H,T:=s.T }
 have hle:GLe g1 g2:=⟨fun _ _ e=>.inl e,fun _ _ _=>rfl,fun _ _=>rfl,fun i ob e=>⟨rfl,ob,e,fun cs2 q=>⟨cs2,q,rfl⟩⟩,fun t n k e=>⟨n,e,aJ _,fun _=>rfl⟩⟩
 have hcells:∀ o,Uu g2.S g2.w (cs'.drop o) (g.φ l) o:=fun o=>by
  rw [Yd];intro i c hc;rw [cK] at hc;obtain ⟨v,hv,hr⟩:=hdat.right hc;have hlt:o+i<cs'.length:=(aG.1 hc).1;have hlen:=Mz hd;have Oy:=v2 (o+i) v hv;rw [aW] at Oy;exact ⟨hr.2.1,.inr ⟨rfl,by omega⟩,v,Oy,hr.1.mono (fun _ _ e=>.inl e) (fun _ _ _=>rfl) (fun _ _=>rfl)⟩
 have hsp:∀ t B,Wi g2 t B->Wi g t B:=by
  rintro t B ⟨n,k,off,cap,h1,h2,h3⟩;exact ⟨n,k,off,cap,hcut.T t _ h1,h2,h3⟩
 have href:∀ o v,v=Value.pointer (some ⟨g.φ l,o,none⟩)->Jv g2.S g2.w (.cptr (cs'.drop o)) v:=fun o v e=>by
  simp only [Jv]; exact ⟨g.φ l,o,e,hcells o⟩
 refine ⟨g2,{ hH:=rfl,hT:=rfl,defers:=h.defers,len:=by simpa [Kbq] using h.len,tm:=fun i p v hp hv=>?_,sub:=fun B o e=>.inl (h.sub B o e),new:=fun B o e=>?_,lt:=fun B o e=>?_,below:=h.below,objs:=fun i ob hob=>?_,inj:=fun i j hi hj e=>?_,owns:=fun t n k ht=>?_,ownsEx:=fun t t' B h1 h2=>h.ownsEx t t' B (hsp t B h1) (hsp t' B h2),ownsObj:=fun t B i h1 h2=>?_,glob:=fun i cs2 e=>(h.glob i cs2 e).mono (fun _ _ q=>.inl q) (fun _ _ _=>rfl) (fun _ _=>rfl),exs:=fun t k b xss hx=>?_,exsEx:=fun t t' B h1 h2=>h.exsEx t t' B h1 h2,fix:=fun i B hF=>⟨(h.fix i B hF).1,fun hs=>(by
  obtain ⟨x,hx⟩:=aL.1 hs;exact (h.fix i B hF).2 (by rw [(hkeep i x hx).2]; rfl))⟩,fixT:=fun t v n hF=>⟨(h.fixT t v n hF).1,fun n0 e=>(h.fixT t v n hF).2 n0 (hcut.T t _ e)⟩ },rfl⟩
 rotate_right
 ·obtain ⟨q1,q2,q3,q4,q5,q6⟩:=h.exs t k b xss hx;refine ⟨by show s.T t=_; rw [<- h.hT]; exact q1,q2,q3,q4,q5,q6.imp id ?_⟩;rintro ⟨B,cap,e,hc0,f1,f2,f3,f4,⟨us,u1,u2⟩,f6,f7,f8⟩;have hne:g.φ l≠B:=f7 l (by rw [hgl]; rfl);exact ⟨B,cap,e,hc0,f1,f2,f3,fun o ho=>ho.elim (f4 o) fun q=>hne q.1.symm,⟨us,u1.mono fun _ _ q=>⟨q.1.mono (fun _ _ e=>.inl e) (fun _ _ _=>rfl) (fun _ _=>rfl),q.2⟩,u2⟩,f6,fun i hi=>by
   obtain ⟨x,hx⟩:=aL.1 hi;exact f7 i (by rw [(hkeep i x hx).2]; rfl),fun t' ht'=>f8 t' (hsp t' B ht')⟩
 ·simp only [Kbq,aN,aD] at hp;obtain ⟨q,hq,rfl⟩:=hp;have hr:=h.tm i q v hq hv;unfold frz
  by_cases hlv:Hr (Fy ls s.H) s.T q=true
  ·rw [if_pos hlv];have h1:Rel g1 q v:=hr.live hcut hlv;exact h1.mono hle
  ·rw [if_neg hlv];split
   ·rename_i l' o;split
    ·rename_i e;subst e;simp only [Rel,Ks,Kk];exact href o v hr.1
    ·trivial
   ·rename_i f caps;split
    ·rename_i hc0;simp only [Rel,Ks,Kk] at hr ⊢;obtain ⟨arr,e1,e2⟩:=hr;refine ⟨arr,e1,by simp [e2.1],fun j x y hx hy=>?_⟩;rw [aN] at hx;obtain ⟨c,hc,rfl⟩:=aD.1 hx;have h3:=e2.2 j c y hc hy;have h4:Kal (Kd3 l cs' c)=true:=aK.1 hc0 _ (bN.2 ⟨c,aC hc,rfl⟩);cases c
     case ref l' o=>
      simp only [Kd3] at h4 ⊢;split
      ·rename_i e;subst e;exact href o y h3.1
      ·rename_i e;rw [if_neg e] at h4; cases h4
     all_goals
      (simp only [Kd3,Jbr] at h3 ⊢
       exact h3.mono (fun _ _ e=>.inl e) (fun _ _ _=>rfl) (fun _ _=>rfl))
    ·trivial
   ·trivial
 ·rcases e with e|⟨rfl,_⟩
  ·exact h.new B o e
  ·exact .inr o1
 ·rcases e with e|⟨rfl,_⟩
  ·exact h.lt B o e
  ·exact o2
 ·obtain ⟨hi,hgi⟩:=hkeep i ob hob;obtain ⟨k1,k2,k3,k4⟩:=h.objs i ob hgi;have hne:g.φ i≠g.φ l:=fun e=>by
   have:=h.inj i l (by rw [hgi]; rfl) (by rw [hgl]; rfl) e;subst this; exact hnl hi
  refine ⟨k1,k2,fun o e=>e.elim (k3 o) (fun q=>hne q.1), ?_⟩;have hlv:=aK.1 hlive i hi;have hsi:s.H i=some ob:=by rw [<- h.hH]; exact hgi
  rw [hsi] at hlv;cases ob with
  | cells cs2=>
   obtain ⟨us,u1,u2,u3⟩:=k4;refine ⟨us,⟨u1.1,fun j x y hx hy=>?_⟩,u2,u3⟩;have h5:=u1.2 j x y hx hy;have h6:Pa (Fy ls s.H) s.T x=true:=aK.1 hlv x (aC hx);have h7:Yr g1 x y:=⟨h5.1.live hcut h6,h5.2⟩
   exact h7.mono hle
  | iter b pos=>exact k4
  | miter ks vs left cur=>exact Jmr.mono k4 (fun _ _ e=>.inl e) (fun _ _ _=>rfl) (fun _ _=>rfl) fun _ e=>e
  | mapo es k b tk=>cases hlv
  | map es=>
   obtain ⟨arr,clock,u1,u2⟩:=k4;exact ⟨arr,clock,u1,u2.mono fun _ _ q=>⟨q.1.mono (fun _ _ e=>.inl e) (fun _ _ _=>rfl) (fun _ _=>rfl),q.2.1.mono (fun _ _ e=>.inl e) (fun _ _ _=>rfl) (fun _ _=>rfl),q.2.2⟩⟩
 ·obtain ⟨x,hx⟩:=aL.1 hi;obtain ⟨y,hy⟩:=aL.1 hj;exact h.inj i j (by rw [(hkeep i x hx).2]; rfl) (by rw [(hkeep j y hy).2]; rfl) e
 ·rcases h.owns t n k (hcut.T t _ ht) with e|⟨B,off,cap,e1,e2,e3⟩
  ·exact .inl e
  ·refine .inr ⟨B,off,cap,e1,e2,fun hlt=>?_⟩;obtain ⟨q1,q2,q3,q4⟩:=e3 hlt;refine ⟨q1,q2,q3,fun hk o ho=>ho.elim (q4 hk o) fun e=>?_⟩;exact absurd e.1.symm (h.ownsObj t B l ⟨n,k,off,cap,hcut.T t _ ht,e1,hlt⟩ (by rw [hgl]; rfl))
 ·obtain ⟨x,hx⟩:=aL.1 h2;exact h.ownsObj t B i (hsp t B h1) (by rw [(hkeep i x hx).2]; rfl)
theorem Jvw{c:Code}(l:Nat)(ls:List Nat){cs cs':List PV}(hl:s.H l=some (.cells cs))(hd:Iv cs=some cs')(hn:ls.contains l=false)(hlive:(ls.all fun i=>match s.H i with|some ob=>Jfb (Fy ls s.H) s.T ob|none=>true)=true)(h:pwp P Gl c Q (Kbq l cs' ls s)):pwp P Gl c Q s:=fun S0 w0 a w hi=>by
 obtain ⟨g,rfl,hg⟩:=hi;obtain ⟨g',h1,h2⟩:=hg.freeze hl hd hn hlive;exact h S0 w0 a _ ⟨g',h2,h1⟩
end
end PM
