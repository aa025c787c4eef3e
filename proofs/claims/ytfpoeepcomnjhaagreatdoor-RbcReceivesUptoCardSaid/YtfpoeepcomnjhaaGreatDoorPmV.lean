import Derived.Test.YtfpoeepcomnjhaaGreatDoorPmN
import Derived.Still
/-
 THE PURE MACHINE, V: typed values (Enc), and the rules for elements, lengths and appends.
-/
namespace PM
open Go Go.RowKit
class Enc (α:Type) where
 k:Nat
 b:Nat
 pv:α->PV
def cellsOf{α:Type}[Enc α](x:α):List PV:=(Enc.pv x).cells
instance : Enc Int:=⟨1,8,fun n=>.int .i64 n⟩
instance : Enc Bool:=⟨1,1,fun b=>.bool b⟩
instance : Enc ByteArray:=⟨1,16,fun s=>.str s⟩
def Jg{α:Type}[Enc α](o:Own)(l:List α):PV:=.lst o (Enc.k α) (Enc.b α) (l.map cellsOf)
instance {α:Type}[Enc α]:Enc (List α):=⟨1,24,fun l=>Jg .frozen l⟩
section
variable {α:Type}
def ixO(L:List α)(i:Int):Option α:=if 0<=i then L[i.toNat]? else none
def Jwd(k:Nat)(xss:List (List PV))(n:Int):Option (PV×Eff):=(if k=k/\0<=n then (xss[n.toNat]?).map PV.cptr else none).map fun v=>(v,Eff.none)
def Qd[Enc α](L ys:List α):Option (List α):=if (L.length+ys.length) * Enc.b α<=Jx/\L.length+ys.length<=Jx then some (L++ys) else none
variable {P:Program} {Gl:GL} {s:PSt} {d:Bool} {Ls:List (Oper×Gd)} {Q:PSt->Prop} [Enc α]
theorem p_ix{L:List α}{i:Int}{y:α}(hy:ixO L i=some y)(h:Ix P Gl Ls s=Jwd (Enc.k α) (L.map cellsOf) i)(h2:Ju P Gl d (Ls.drop 1) (s.put (Qk Ls) (.cptr (cellsOf y))) Q):Ju P Gl d Ls s Q:=by
 refine Bu (v:=.cptr (cellsOf y)) (e:=.none) ?_ h2;rw [h];unfold ixO at hy;unfold Jwd;split at hy
 ·rename_i h0;rw [if_pos ⟨rfl,h0⟩,aL,hy]; rfl
 ·cases hy
theorem Kfi{L:List α}(h:Ix P Gl Ls s=some (.int .i64 ((L.map cellsOf).length:Nat),.none))(h2:Ju P Gl d (Ls.drop 1) (s.put (Qk Ls) (.int .i64 (L.length:Nat))) Q):Ju P Gl d Ls s Q:=by
 refine Bu (e:=.none) h ?_;rw [aS]; exact h2
def Jkb(P:Program):List (Oper×Gd)->PSt->Option (Nat×Bool×Nat×Nat×List (List PV)×List (List PV))
 | (o,.always)::_,s=>match o.op,o.dst with
  | .call c,some d=>match c.callee,c.args.toList,c.argTypes.toList with
   | .builtin .append,[x,y],[t,t']=>match Jf5 P t,Nm P t' with
    | some (_,k,b),true=>match Jzn k (s.ev y) with
     | some yss=>match s.ev x with
      | .nil=>if (s.T d).isNone=true then some (d,true,k,b,[],yss) else none
      | .lst .full k' b' xss=>if k'=k/\b'=b/\(s.T d).isNone=true then some (d,true,k,b,xss,yss) else none
      | .lst (.own t) k' b' xss=>if k'=k/\b'=b then some (t,false,k,b,xss,yss) else none
      | _=>none
     | none=>none
    | _,_=>none
   | _,_,_=>none
  | _,_=>none
 | _,_=>none
theorem Jm6{tk k b:Nat}{new:Bool}{xss yss:List (List PV)}(h:Jkb P Ls s=some (tk,new,k,b,xss,yss))(hT:new=false->s.T tk=some (xss.length,k))(hz:(xss.length+yss.length) * b<=Jx/\xss.length+yss.length<=Jx) :
  Ix P Gl Ls s=some (.lst (.own tk) k b (xss++yss),.tok tk (xss.length+yss.length) k):=by
 unfold Jkb at h;split at h
 ·rename_i o rest;split at h
  ·rename_i c d hop hd;split at h
   ·rename_i x y t t' h1 h2 h3;split at h
    ·rename_i e k0 b0 hk ht';split at h
     ·rename_i yss0 hy;have hno:Vd (Op.call c)=none:=by simp [Vd,h1]
      have hev:∀ X,Se P o.dst s.T t t' (s.ev x) (s.ev y)=X->Ix P Gl ((o,Gd.always)::rest) s=X:=by
       intro X hX;simp only [Ix,hop,hno,evO,Bn,h1,if_true,evE,h2,h3];exact hX
      apply hev;unfold Se;simp only [hk,ht',hd,hy];split at h
      ·rename_i hx;split at h
       ·rename_i hTn;cases h;simp only [hx];have:s.T tk=none:=by simpa using hTn
        simp only [aN,aV] at hz;rw [if_pos this,if_pos hz];simp
       ·cases h
      ·rename_i k1 b1 xss1 hx;split at h
       ·rename_i hc;cases h;simp only [hx];obtain ⟨rfl,rfl,hTn⟩:=hc;have:s.T tk=none:=by simpa using hTn
        rw [if_pos ⟨rfl,rfl,this⟩,if_pos hz]
       ·cases h
      ·rename_i t1 k1 b1 xss1 hx;split at h
       ·rename_i hc;cases h;simp only [hx];obtain ⟨rfl,rfl⟩:=hc;rw [if_pos ⟨rfl,rfl,hT rfl⟩,if_pos hz]
       ·cases h
      ·cases h
     ·cases h
    ·cases h
   ·cases h
  ·cases h
 ·cases h
theorem Kdf{L ys M:List α}{tk:Nat}(hM:Qd L ys=some M)(hT:s.T tk=some ((L.map cellsOf).length,Enc.k α))(h:Jkb P Ls s=some (tk,false,Enc.k α,Enc.b α,L.map cellsOf,ys.map cellsOf))(h2:Ju P Gl d (Ls.drop 1) (({ s with T:=upd s.T tk (some ((M.map cellsOf).length,Enc.k α)) }:PSt).put (Qk Ls) (Jg (.own tk) M)) Q):Ju P Gl d Ls s Q:=by
 unfold Qd at hM;split at hM
 ·rename_i hz;cases hM;have:=Jm6 (Gl:=Gl) h (fun _=>by simpa using hT) (by simpa using hz);refine Bu this ?_
  simpa [Eff.app,Jg,cW] using h2
 ·cases hM
theorem Md{L ys M:List α}{tk:Nat}(hM:Qd L ys=some M)(h:Jkb P Ls s=some (tk,true,Enc.k α,Enc.b α,L.map cellsOf,ys.map cellsOf))(h2:Ju P Gl d (Ls.drop 1) (({ s with T:=upd s.T tk (some ((M.map cellsOf).length,Enc.k α)) }:PSt).put (Qk Ls) (Jg (.own tk) M)) Q):Ju P Gl d Ls s Q:=by
 unfold Qd at hM;split at hM
 ·rename_i hz;cases hM;have:=Jm6 (Gl:=Gl) h (fun e=>by cases e) (by simpa using hz);refine Bu this ?_
  simpa [Eff.app,Jg,cW] using h2
 ·cases hM
end
section
variable {α β:Type}
theorem Qp{x:Option α}{f:α->Option β}{r:β}(h:x.bind f=some r):∃ a,x=some a/\f a=some r:=aT.1 h
theorem Jja{b:Bool}{x y:Option β}{r:β}(h:(bif b then x else y)=some r):(b=true/\x=some r)\/(b=false/\y=some r):=by
 cases b
 ·exact .inr ⟨rfl,h⟩
 ·exact .inl ⟨rfl,h⟩
theorem Kdu{a b x:Bool}(h:(a||b)=x):(a=true/\true=x)\/(a=false/\b=x):=by cases a <;> simp_all
theorem Jh8{a b x:Bool}(h:(a&&b)=x):(a=true/\b=x)\/(a=false/\false=x):=by cases a <;> simp_all
end
end PM
namespace PM
open Go Go.RowKit
inductive Cl where
 | pure|rd|ld|al|st|ms|ap|bad
 deriving DecidableEq
def Zf : Op->Cl
 | .move _|.assign _|.pick _ _ _|.nilCheck _|.binOp _ _ _ _ _|.unOp _ _ _|.convert _ _ _|.fieldAddr _ _ _|.field _ _ _|.indexAddr _ _ _|.index _ _ _|.extract _ _|.slice _ _ _ _ _|.build _ _|.makeFunc _ _ _|.buildSlice _ _ _=>.pure
 | .load _ _=>.ld
 | .lookup _ _ _ _=>.rd
 | .alloc _|.box _ _|.makeMap _ _=>.al
 | .store _ _ _=>.st
 | .mapUpdate _ _ _ _=>.ms
 | .call c=>match c.callee with
  | .value _=>.pure
  | .builtin .len=>.rd
  | .builtin .min|.builtin .max=>.pure
  | .builtin .append=>.ap
  | _=>.bad
 | .makeSlice _ _ _=>.ap
 | _=>.bad
def Jnf : Cl->Cl->Bool
 | .bad,_|_,.bad=>false
 | .pure,_|_,.pure=>true
 | .rd,.rd|.rd,.ld|.rd,.al|.rd,.ap=>true
 | .ld,.rd|.ld,.ld|.ld,.al|.ld,.ap|.ld,.ms=>true
 | .al,.al|.al,.ap=>true
 | .st,.al|.st,.ap=>true
 | .ms,.al|.ms,.ap=>true
 | .ap,.rd|.ap,.ld|.ap,.al|.ap,.st|.ap,.ms=>true
 | _,_=>false
def clR : Cl->Cl
 | .ld=>.rd
 | c=>c
def clS : Cl->Cl
 | .ms=>.st
 | c=>c
section
variable {P:Program} {Gl:GL} {H H':Nat->Option Qg} {T T':Nat->Option (Nat×Nat)} {X:XT} {ρ ρ':Operand->PV} {dst:Option Nat} {op:Op} {v:PV} {e:Eff}
theorem Jfx(h:∀ x∈op.operands,ρ x=ρ' x):evO P Gl dst op ρ H T X=evO P Gl dst op ρ' H T X:=by
 unfold evO;cases op <;> simp only [Bn,aP,if_false,if_true,ev1,evE]
 case pick c x y=>simp only [Op.operands] at h; rw [h c sG,h x sG,h y sG]
 case move x=>simp only [Op.operands] at h; rw [h x sG]
 case assign x=>simp only [Op.operands] at h; rw [h x sG]
 case box t x=>simp only [Op.operands] at h; rw [h x sG]
 case nilCheck x=>simp only [Op.operands] at h; rw [h x sG]
 case unOp op t x=>simp only [Op.operands] at h; rw [h x sG]
 case convert a b x=>simp only [Op.operands] at h; rw [h x sG]
 case fieldAddr t x f=>simp only [Op.operands] at h; rw [h x sG]
 case field t x f=>simp only [Op.operands] at h; rw [h x sG]
 case load t x=>simp only [Op.operands] at h; rw [h x sG]
 case makeSlice t n c=>simp only [Op.operands] at h; rw [h n sG,h c sG]
 case lookup t x k ok=>simp only [Op.operands] at h; rw [h x sG,h k sG]
 case mapUpdate t m k x=>simp only [Op.operands] at h; rw [h m sG,h k sG,h x sG]
 case extract x i=>simp only [Op.operands] at h; rw [h x sG]
 case store t x y=>simp only [Op.operands] at h; rw [h x sG,h y sG]
 case binOp op t x y u=>simp only [Op.operands] at h; rw [h x sG,h y sG]
 case indexAddr t x y=>simp only [Op.operands] at h; rw [h x sG,h y sG]
 case index t x y=>simp only [Op.operands] at h; rw [h x sG,h y sG]
 case slice t x lo hi mx=>
  simp only [Op.operands] at h;rw [h x sG];have e:∀ y:Option Operand,(∀ z∈y,ρ z=ρ' z)->y.map ρ=y.map ρ':=fun y hy=>by
   cases y with
   | none=>rfl
   | some z=>simp [hy z rfl]
  rw [e lo (fun z hz=>h z (by simp at hz; subst hz; simp)),e hi (fun z hz=>h z (by simp at hz; subst hz; simp)),e mx (fun z hz=>h z (by simp at hz; subst hz; simp))]
 case build t ps=>
  simp only [Op.operands] at h;have:ps.toList.map (fun x=>(x.1,ρ x.2))=ps.toList.map (fun x=>(x.1,ρ' x.2)):=eC fun x hx=>by
   rw [h x.2 (by simp; exact ⟨x.1,by simpa using hx⟩)]
  rw [this]
 case buildSlice t n ps=>
  simp only [Op.operands] at h;have:ps.toList.map (fun x=>(x.1,ρ x.2))=ps.toList.map (fun x=>(x.1,ρ' x.2)):=eC fun x hx=>by
   rw [h x.2 (by simp; exact ⟨x.1,by simpa using hx⟩)]
  rw [this]
 case makeFunc fn first caps=>
  simp only [Op.operands] at h;have:caps.toList.map ρ=caps.toList.map ρ':=eC fun x hx=>h x (by simp; exact .inr (by simpa using hx));cases fn <;> simp only [this]
 case call c=>
  simp only [Op.operands,Call.operands] at h;have hargs:∀ x∈c.args.toList,ρ x=ρ' x:=fun x hx=>h x (by simp; exact .inr (by simpa using hx));obtain ⟨cal,args,tys⟩:=c;cases cal with
  | value f=>simp only [aP,if_false]
  | invoke r m=>simp only [aP,if_false]
  | builtin b=>
   cases b <;> simp only [aP,if_false,if_true]
   all_goals
    (split
     all_goals first
      | rfl
      | (rename_i x y _ h2; rw [hargs x (by rw [h2]; simp),hargs y (by rw [h2]; simp)]; done)
      | (rename_i x y h2; rw [hargs x (by rw [h2]; simp),hargs y (by rw [h2]; simp)]; done)
      | (rename_i x _ _ h2 _; rw [hargs x (by rw [h2]; simp)]; done)
      | (rename_i x y _ _ _ h2 _; rw [hargs x (by rw [h2]; simp),hargs y (by rw [h2]; simp)]; done))
theorem Jzq(hc:Zf op=.pure)(h:evO P Gl dst op ρ H T X=some (v,e)):e=.none/\∀ H' T' X',evO P Gl dst op ρ H' T' X'=some (v,e):=by
 unfold evO at h ⊢;cases op <;> simp only [Zf] at hc <;> try cases hc
 case buildSlice.intro t n ps=>
  simp only [Bn,if_true,evE] at h ⊢;split at h
  ·rename_i e k b xss h1 h2;split at h
   ·rename_i h3;cases h;exact ⟨rfl,fun H' T' X'=>by rw [if_pos h3]⟩
   ·cases h
  ·cases h
 case call c=>
  obtain ⟨cal,args,tys⟩:=c;cases cal with
  | value f=>simp [Bn,ev1] at h
  | invoke r m=>cases hc
  | builtin b=>
   cases b <;> try cases hc
   all_goals
    (simp only [Bn,aP,if_false,ev1] at h ⊢
     obtain ⟨u,h1,h2⟩:=aC.1 h;simp only [aK] at h2;obtain ⟨rfl,rfl⟩:=h2;split at h1 <;> first|cases h1|skip
     all_goals
      first
       | (rename_i e _ _; cases e; done)
       | (rename_i e _; cases e; done)
       | (refine ⟨rfl,fun _ _ _=>?_⟩; rw [h1]; rfl))
 case makeFunc.intro fn first caps=>
  cases fn <;> simp only [Bn,aP,if_false,ev1,Option.map_none] at h ⊢ <;> try cases h
  obtain ⟨u,h1,h2⟩:=aC.1 h;simp only [aK] at h2;obtain ⟨rfl,rfl⟩:=h2;exact ⟨rfl,fun _ _ _=>h⟩
 all_goals
  (simp only [Bn,aP,if_false,ev1] at h ⊢
   obtain ⟨u,h1,h2⟩:=aC.1 h;simp only [aK] at h2;obtain ⟨rfl,rfl⟩:=h2;exact ⟨rfl,fun _ _ _=>h⟩)
theorem Kb1(hc:Zf op=.rd)(h:evO P Gl dst op ρ H T X=some (v,e)):e=.none/\(∀ T',evO P Gl dst op ρ H T' X=some (v,e))/\∀ d x T',H d=none->evO P Gl dst op ρ (upd H d x) T' X=some (v,e):=by
 unfold evO at h ⊢;cases op <;> simp only [Zf] at hc <;> try cases hc
 case lookup.intro t x k ok=>
  simp only [Bn,aP,if_false,ev1] at h ⊢;obtain ⟨u,h1,h2⟩:=aC.1 h;simp only [aK] at h2;obtain ⟨rfl,rfl⟩:=h2;refine ⟨rfl,fun _=>h,fun d x' T' hd=>?_⟩;cases hx:ρ x <;> rw [hx] at h h1 <;> simp only at h h1 ⊢ <;> first|exact h|(cases h1; done)|skip
  rename_i l;have:l≠d:=fun e=>by subst e; rw [hd] at h1; cases h1
  rw [Ka _ _ _ _ this]; exact h
 case call c=>
  split at hc <;> try cases hc
  rename_i hcal;simp only [Bn,hcal,aP,if_false,ev1] at h ⊢;obtain ⟨u,h1,h2⟩:=aC.1 h;simp only [aK] at h2;obtain ⟨rfl,rfl⟩:=h2;refine ⟨rfl,fun _=>h,fun d x' T' hd=>?_⟩;split at h1
  ·rename_i x t _ h3 h4;have:Jsl P (upd H d x') t (ρ x)=some u:=by
    cases hx:ρ x <;> rw [hx] at h1 <;> simp only [Jsl] at h1 ⊢ <;> try exact h1
    rename_i l;have:l≠d:=fun e=>by subst e; rw [hd] at h1; cases h1
    rw [Ka _ _ _ _ this]; exact h1
   rw [this]; rfl
  all_goals first|(rename_i h5 _; cases h5)|cases h1
theorem Kbs(hc:Zf op=.ld)(h:evO P Gl dst op ρ H T X=some (v,e)):e=.none/\(∀ T',evO P Gl dst op ρ H T' X=some (v,e))/\∀ d x T',H d=none->evO P Gl dst op ρ (upd H d x) T' X=some (v,e):=by
 unfold evO at h ⊢;cases op <;> simp only [Zf] at hc <;> try cases hc
 case load.intro t x=>
  simp only [Bn,aP,if_false,ev1] at h ⊢;obtain ⟨u,h1,h2⟩:=aC.1 h;simp only [aK] at h2;obtain ⟨rfl,rfl⟩:=h2;refine ⟨rfl,fun _=>h,fun d x' T' hd=>?_⟩;have:Jbw P Gl (upd H d x') X t (ρ x)=some u:=by
   cases hx:ρ x <;> rw [hx] at h1 <;> simp only [Jbw] at h1 ⊢ <;> try exact h1
   rename_i l o;have:l≠d:=fun e=>by subst e; rw [hd] at h1; cases h1
   rw [Ka _ _ _ _ this]; exact h1
  rw [this]; rfl
 case call c=>split at hc <;> cases hc
theorem Je8(hc:clR (Zf op)=.rd)(h:evO P Gl dst op ρ H T X=some (v,e)):e=.none/\(∀ T',evO P Gl dst op ρ H T' X=some (v,e))/\∀ d x T',H d=none->evO P Gl dst op ρ (upd H d x) T' X=some (v,e):=by
 cases h0:Zf op <;> rw [h0] at hc <;> first|exact Kb1 h0 h|exact Kbs h0 h|cases hc
theorem Jcn(hc:Zf op=.al)(h:evO P Gl dst op ρ H T X=some (v,e)):∃ d ob,H d=none/\e=.obj d ob/\dst=some d/\∀ H' T' X',H' d=none->evO P Gl dst op ρ H' T' X'=some (v,e):=by
 unfold evO at h ⊢;cases op <;> simp only [Zf] at hc <;> try cases hc
 case alloc.intro t=>
  simp only [Bn,if_true,evE] at h ⊢;split at h
  ·rename_i d z h1;split at h
   ·rename_i h2;cases h;obtain ⟨h21,h22⟩:=h2;simp only [aF,decide_eq_true_eq] at h21;exact ⟨d,_,by simpa using h21.1,rfl,rfl,fun H' T' X' hd=>by rw [if_pos ⟨by simp [hd,h21.2],h22⟩]⟩
   ·cases h
  ·cases h
 case box.intro t x=>
  simp only [Bn,if_true,evE] at h ⊢;split at h
  ·rename_i d;split at h
   ·rename_i h2;cases h;obtain ⟨h21,h22⟩:=h2;simp only [aF,decide_eq_true_eq] at h21;exact ⟨d,_,by simpa using h21.1,rfl,rfl,fun H' T' X' hd=>by rw [if_pos ⟨by simp [hd,h21.2],h22⟩]⟩
   ·cases h
  ·cases h
 case makeMap.intro t r=>
  simp only [Bn,if_true,evE] at h ⊢;split at h
  ·rename_i d;split at h
   ·rename_i h2;cases h;simp only [aF,decide_eq_true_eq] at h2;exact ⟨d,_,by simpa using h2.1,rfl,rfl,fun H' T' X' hd=>by rw [if_pos (by simp [hd,h2.2])]⟩
   ·cases h
  ·cases h
 case call c=>split at hc <;> cases hc
theorem Kcp(hc:Zf op=.st)(h:evO P Gl dst op ρ H T X=some (v,e)):(∃ l ob,(H l).isSome=true/\e=.obj l ob/\∀ H' T',H' l=H l->evO P Gl dst op ρ H' T' X=some (v,e))\/∃ t x,e=.xs t x/\∀ H' T',evO P Gl dst op ρ H' T' X=some (v,e):=by
 unfold evO at h ⊢;cases op <;> simp only [Zf] at hc <;> try cases hc
 case store.intro t x y=>
  simp only [Bn,if_true,evE] at h ⊢;split at h
  ·rename_i l o hx;split at h
   ·rename_i cs r n h1 h2;split at h
    ·rename_i h3;cases h;exact .inl ⟨l,_,by rw [h1]; rfl,rfl,fun H' T' hl=>by rw [hl,h1,h2]; simp only; rw [if_pos h3]⟩
    ·cases h
   ·cases h
  ·rename_i tk k N j o hx;refine .inr ?_;have key:∃ t x,e=.xs t x:=by
    split at h
    ·split at h
     ·obtain ⟨cs,_,hl⟩:=aT.1 h;split at hl
      ·cases hl; exact ⟨_,_,rfl⟩
      ·cases hl
     ·cases h
    ·cases h
   obtain ⟨t,x,he⟩:=key;exact ⟨t,x,he,fun _ _=>h⟩
  ·cases h
 case call c=>split at hc <;> cases hc
theorem Jg9{d:TypeDesc}{l:Nat}{es:List (PV×List (List PV))}{k b:Nat}{tk:Nat->Nat}{kv x:PV}(h:Je2 d l es k b tk kv x=some (v,e)):∃ es' tk',e=.obj l (.mapo es' k b tk'):=by
 unfold Je2 at h;split at h
 ·split at h
  ·obtain ⟨r,_,he⟩:=aC.1 h;cases he; exact ⟨_,_,rfl⟩
  ·cases h
 ·cases h
theorem Kcr(hc:Zf op=.ms)(h:evO P Gl dst op ρ H T X=some (v,e)):(∃ l ob,(H l).isSome=true/\e=.obj l ob/\∀ H' T',H' l=H l->evO P Gl dst op ρ H' T' X=some (v,e))\/∃ t x,e=.xs t x/\∀ H' T',evO P Gl dst op ρ H' T' X=some (v,e):=by
 unfold evO at h ⊢;cases op <;> simp only [Zf] at hc <;> try cases hc
 case mapUpdate.intro t m k x=>
  simp only [Bn,if_true,evE] at h ⊢;split at h
  ·rename_i l hx;split at h
   ·rename_i es d z dv h1 h2 h4;split at h
    ·rename_i h3;obtain ⟨es',hp,he⟩:=aC.1 h;cases he;exact .inl ⟨l,_,by rw [h1]; rfl,rfl,fun H' T' hl=>by simp [hl,h1,h2,h4,h3.1,h3.2,hp]⟩
    ·cases h
   ·rename_i es k' b tk d z dv h1 h2 h4;obtain ⟨es',tk',he⟩:=Jg9 h;exact .inl ⟨l,_,by rw [h1]; rfl,he,fun H' T' hl=>by simp [hl,h1,h2,h4,h]⟩
   ·cases h
  ·cases h
 case call c=>split at hc <;> cases hc
theorem Jq7(hc:clS (Zf op)=.st)(h:evO P Gl dst op ρ H T X=some (v,e)):(∃ l ob,(H l).isSome=true/\e=.obj l ob/\∀ H' T',H' l=H l->evO P Gl dst op ρ H' T' X=some (v,e))\/∃ t x,e=.xs t x/\∀ H' T',evO P Gl dst op ρ H' T' X=some (v,e):=by
 cases h0:Zf op <;> rw [h0] at hc <;> first|exact Kcp h0 h|exact Kcr h0 h|cases hc
theorem Kd8(hc:Zf op=.ld)(h:evO P Gl dst op ρ H T X=some (v,e)){l:Nat}{ob ob':Qg}(hl:H l=some ob)(hn:∀ cs,ob≠.cells cs):evO P Gl dst op ρ (upd H l (some ob')) T X=some (v,e):=by
 unfold evO at h ⊢;cases op <;> simp only [Zf] at hc <;> try cases hc
 case load.intro t x=>
  simp only [Bn,aP,if_false,ev1] at h ⊢;obtain ⟨u,h1,h2⟩:=aC.1 h;simp only [aK] at h2;obtain ⟨rfl,rfl⟩:=h2;have:Jbw P Gl (upd H l (some ob')) X t (ρ x)=some u:=by
   cases hx:ρ x <;> rw [hx] at h1 <;> simp only [Jbw] at h1 ⊢ <;> try exact h1
   rename_i l' o;have:l'≠l:=fun e=>by
    subst e; rw [hl] at h1;cases ob with
    | cells cs=>exact hn cs rfl
    | _=>cases h1
   rw [Ka _ _ _ _ this]; exact h1
  rw [this]; rfl
 case call c=>split at hc <;> cases hc
theorem Kez(hc:Zf op=.ms)(h:evO P Gl dst op ρ H T X=some (v,e)):∃ l ob ob',(H l=some ob/\∀ cs,ob≠.cells cs)/\e=.obj l ob':=by
 unfold evO at h;cases op <;> simp only [Zf] at hc <;> try cases hc
 case mapUpdate.intro t m k x=>
  simp only [Bn,if_true,evE] at h;split at h
  ·rename_i l hx;split at h
   ·rename_i es d z dv h1 h2 h4;split at h
    ·obtain ⟨es',hp,he⟩:=aC.1 h;cases he;exact ⟨l,_,_,⟨h1,fun cs q=>by cases q⟩,rfl⟩
    ·cases h
   ·rename_i es k' b tk d z dv h1 h2 h4;obtain ⟨es',tk',he⟩:=Jg9 h;exact ⟨l,_,_,⟨h1,fun cs q=>by cases q⟩,he⟩
   ·cases h
  ·cases h
 case call c=>split at hc <;> cases hc
theorem Jeg(hc:Zf op=.ap)(h:evO P Gl dst op ρ H T X=some (v,e)):∃ t n k,e=.tok t n k/\∀ H' X',evO P Gl dst op ρ H' T X'=some (v,e):=by
 unfold evO at h ⊢;cases op <;> simp only [Zf] at hc <;> try cases hc
 case makeSlice.intro t n c=>
  simp only [Bn,if_true,evE] at h ⊢;have key:∃ t n k,e=.tok t n k:=by
   split at h
   ·split at h
    ·split at h
     ·cases h; exact ⟨_,_,_,rfl⟩
     ·cases h
    ·cases h
   ·cases h
  obtain ⟨t,n,k,he⟩:=key;exact ⟨t,n,k,he,fun _ _=>h⟩
 case call c=>
  split at hc <;> try cases hc
  rename_i hcal;simp only [Bn,hcal,if_true,evE] at h ⊢;have key:∃ t n k,e=.tok t n k:=by
   split at h
   ·unfold Se at h;split at h
    ·split at h
     ·split at h
      all_goals first|(split at h <;> first|(split at h <;> first|(cases h; exact ⟨_,_,_,rfl⟩)|cases h)|cases h)|cases h
     ·cases h
    ·cases h
   ·cases h
  obtain ⟨t,n,k,he⟩:=key;exact ⟨t,n,k,he,fun _ _=>h⟩
end
end PM
namespace PM
open Go Go.RowKit
section
variable {P:Program} {Gl:GL} {ops:Array Oper} {s:PSt} {md:Region.Mode}
def gOn(ops:Array Oper)(o:Oper)(s:PSt):Option Bool :=
 match Jb8 ops o with
 | .always=>some true
 | .never=>some false
 | .slot t w=>match s.get t with
  | .bool b=>some (b == w)
  | .tup []=>some false
  | _=>none
 | .bad=>none
def Ql(P:Program)(Gl:GL)(o:Oper)(x:PV×Eff)(s:PSt):Prop :=
 match Vd o.op with
 | some (f,args)=>x.2=.none/\∃ f' caps as r,s.ev f=.fn f' caps/\caps.all Db=true/\Yr P Gl f' as r/\((Ni (args.map s.ev++caps)=some as/\Vj r=[]/\x.1=Sz (o.dst.getD 0) r) \/
  ∃ ts eqs,Jcm ts s (args.map s.ev++caps)=some (as,eqs)/\eqs.map (·.1)=eqs.map (·.2)/\(ts.all Tb)=true/\Jxz r=true/\x.1=r)
 | none=>evO P Gl o.dst o.op s.ev s.H s.T s.X=some x
def Ri(P:Program)(Gl:GL)(ops:Array Oper)(o:Oper)(x:PV×Eff)(s:PSt):Prop :=
 (gOn ops o s=some true/\Ql P Gl o x s)\/(gOn ops o s=some false/\x=(.tup [],.none))
def Yo(o:Oper)(x:PV×Eff)(s:PSt):PSt:=(x.2.app s).put o.dst x.1
def gOp(P:Program)(Gl:GL)(ops:Array Oper)(o:Oper)(K:PSt->Prop)(s:PSt):Prop:=Zj (Jb8 ops o) s (Ru P Gl true o s K) (K (s.put o.dst (.tup [])))
theorem Jc1{o:Oper}{K:PSt->Prop}:gOp P Gl ops o K s↔∃ x,Ri P Gl ops o x s/\K (Yo o x s):=by
 have hstep:Ru P Gl true o s K↔∃ x,Ql P Gl o x s/\K (Yo o x s):=by
  unfold Ru Ql Yo;cases hco:Vd o.op with
  | some fa=>
   obtain ⟨fx,args⟩:=fa;simp only;constructor
   ·rintro (⟨f,caps,as,r,e1,e2,e3,e4,e5,e6,e7⟩|⟨f,caps,as,r,ts,eqs,e1,e2,e3,e4,e5,e6,e7,e8⟩)
    ·have ht:=e6 rfl;rw [ht] at e7;exact ⟨(_,.none),⟨rfl,f,caps,as,r,e1,e2,e4,.inl ⟨e3,ht,rfl⟩⟩,e7⟩
    ·exact ⟨(r,.none),⟨rfl,f,caps,as,r,e1,e2,e6,.inr ⟨ts,eqs,e3,e4,e5,e7,rfl⟩⟩,e8⟩
   ·rintro ⟨⟨v,e⟩,⟨rfl,f,caps,as,r,e1,e2,e4,⟨e3,ht,rfl⟩|⟨ts,eqs,e3,e5,e6,e7,rfl⟩⟩,hK⟩
    ·refine .inl ⟨f,caps,as,r,e1,e2,e3,e4,by rw [ht]; trivial,fun _=>ht, ?_⟩;rw [ht]; exact hK
    ·exact .inr ⟨f,caps,as,_,ts,eqs,e1,e2,e3,e5,e6,e4,e7,hK⟩
  | none=>
   simp only;constructor
   ·rintro ⟨x,e1,e2⟩; exact ⟨x,e1,e2⟩
   ·rintro ⟨x,e1,e2⟩; exact ⟨x,e1,e2⟩
 unfold gOp Ri gOn Zj;cases Jb8 ops o with
 | always=>
  simp only [hstep];constructor
  ·rintro ⟨x,h1,h2⟩; exact ⟨x,.inl ⟨trivial,h1⟩,h2⟩
  ·rintro ⟨x,⟨_,h1⟩|⟨h1,_⟩,h2⟩
   ·exact ⟨x,h1,h2⟩
   ·cases h1
 | never=>
  constructor
  ·intro h; exact ⟨(.tup [],.none),.inr ⟨rfl,rfl⟩,h⟩
  ·rintro ⟨x,⟨h1,_⟩|⟨_,rfl⟩,h2⟩
   ·cases h1
   ·exact h2
 | bad=>simp
 | slot t w=>
  simp only [hstep];cases hg:s.get t
  case bool b=>
   by_cases hb:b=w
   ·subst hb;simp only [beq_self_eq_true,true_and];constructor
    ·rintro ⟨h1,_⟩;obtain ⟨x,h2,h3⟩:=h1 trivial;exact ⟨x,.inl h2,h3⟩
    ·rintro ⟨x,h1|⟨h1,_⟩,h2⟩
     ·exact ⟨fun _=>⟨x,h1,h2⟩,fun e=>by cases b <;> cases e⟩
     ·simp at h1
   ·have hbw:(b == w)=false:=by simpa using hb
    simp only [hbw];constructor
    ·rintro ⟨_,h1⟩;exact ⟨(.tup [],.none),.inr ⟨trivial,rfl⟩,h1 (by cases b <;> cases w <;> simp_all)⟩
    ·rintro ⟨x,⟨h1,_⟩|⟨_,rfl⟩,h2⟩
     ·cases h1
     ·exact ⟨fun e=>absurd e hb,fun _=>h2⟩
  case tup vs=>
   cases vs with
   | nil=>
    constructor
    ·intro h; exact ⟨(.tup [],.none),.inr ⟨rfl,rfl⟩,h⟩
    ·rintro ⟨x,⟨h1,_⟩|⟨_,rfl⟩,h2⟩
     ·cases h1
     ·exact h2
   | cons v vs=>simp
  all_goals simp
def Joo(P:Program)(Gl:GL)(md:Region.Mode)(ops:Array Oper)(Q:PSt->Prop):Nat->Array Bool->PSt->Prop
 | 0,listed,s=>Region.ready md ops listed=[]/\Q s
 | fuel+1,listed,s=>(Region.ready md ops listed=[]->Q s)/\∀ i∈Region.ready md ops listed,∃ o,ops[i]? = some o/\gOp P Gl ops o (Joo P Gl md ops Q fuel (listed.setIfInBounds i true)) s
theorem Jze{o:Oper}{K K':PSt->Prop}(h:∀ s,K s->K' s)(hg:gOp P Gl ops o K s):gOp P Gl ops o K' s:=by
 rw [Jc1] at hg ⊢;obtain ⟨x,h1,h2⟩:=hg;exact ⟨x,h1,h _ h2⟩
theorem Jck{S0:Bs}{w0:World}{Q:PSt->Prop}{Q':Exit->Act->World->Prop}(hQ:∀ s' a' w',Q s'->Inv Gl S0 w0 s' a' w'->Q' .normal a' w') :
  ∀ (fuel:Nat) (listed:Array Bool) (s:PSt) (a:Act) (w:World),Inv Gl S0 w0 s a w->Joo P Gl md ops Q fuel listed s->wpAny P md ops Q' fuel listed a w
 | 0,_,_,_,_,hi,h=>⟨h.1,hQ _ _ _ h.2 hi⟩
 | fuel+1,listed,s,a,w,hi,h=>by
  refine ⟨fun h0=>hQ _ _ _ (h.1 h0) hi,fun i hir=>?_⟩;obtain ⟨o,ho,hg⟩:=h.2 i hir;unfold wpOp;simp only [ho];obtain ⟨g,rfl,hg'⟩:=hi;unfold gOp at hg;rcases Xe hg' hg with ⟨h1,h2⟩|⟨h1,h2⟩
  ·rw [if_pos h1];exact .inl (Jjw hg' h2 fun s' a' w' hs' hi'=>Jck hQ fuel _ s' a' w' hi' hs')
  ·rw [if_neg (by rw [h1]; simp)];exact Jck hQ fuel _ _ _ _ ⟨g,rfl,hg'.put _ (Rel.und _)⟩ h2
theorem Jql{dst:Option Nat}{v:PV}{x:Operand}(h:∀ d,dst=some d->x≠.tmp d):(s.put dst v).ev x=s.ev x:=by
 cases dst with
 | none=>rfl
 | some d=>
  cases x with
  | tmp t=>
   have:d≠t:=fun e=>h d rfl (by rw [e]);show (s.put (some d) v).get t=s.get t;exact Mj (by simpa using this)
  | const v=>rfl
  | global g=>rfl
  | func f=>rfl
theorem Jqb(e:Eff)(x:Operand):(e.app s).ev x=s.ev x:=by
 cases e <;> cases x <;> rfl
theorem Kcc(e:Eff)(t:Nat):(e.app s).get t=s.get t:=by cases e <;> rfl
theorem Jfv{o:Oper}{x:Operand}{d:Nat}(hd:d∉o.looksAt ops)(hx:x∈o.op.operands):x≠.tmp d:=by
 rintro rfl;exact hd (by simp only [Oper.looksAt,aW,List.mem_filterMap]; exact .inl ⟨.tmp d,by simpa using hx,rfl⟩)
theorem Jt9{o o':Oper}{x:PV×Eff}(h:∀ d,o'.dst=some d->d∉o.looksAt ops):gOn ops o (Yo o' x s)=gOn ops o s:=by
 unfold gOn Jb8;cases hg:o.guard with
 | none=>rfl
 | some jw=>
  obtain ⟨j,w⟩:=jw;simp only;cases hd:(ops[j]?).bind (·.dst) with
  | none=>rfl
  | some t=>
   simp only;have:(Yo o' x s).get t=s.get t:=by
    unfold Yo;rw [Mj,Kcc];cases hd':o'.dst with
    | none=>rfl
    | some d=>
     have:=h d hd';have hne:d≠t:=fun e=>this (by subst e; simp only [Oper.looksAt,hg,hd]; simp)
     simpa using hne
   rw [this]
theorem Jrt{a b:Option Nat}{u v:PV}(h:∀ d,a=some d->b≠some d):(s.put a u).put b v=(s.put b v).put a u:=by
 cases a with
 | none=>rfl
 | some i=>
  cases b with
  | none=>rfl
  | some j=>
   have hne:i≠j:=fun e=>h i rfl (by rw [e])
   by_cases hi:i+s.m<s.tm.length
   ·by_cases hj:j+s.m<s.tm.length
    ·rw [s.put_in u hi,s.put_in v hj,PSt.put_in _ v (by simpa using hj),PSt.put_in _ u (by simpa using hi)];simp only;rw [List.set_comm _ _ hne]
    ·rw [s.put_in u hi,s.put_out v hj,PSt.put_out _ v (by simpa using hj),s.put_in u hi]
   ·rw [s.put_out u hi]
    by_cases hj:j+s.m<s.tm.length
    ·rw [s.put_in v hj,PSt.put_out _ u (by simpa using hi)]
    ·rw [s.put_out v hj,s.put_out u hi]
theorem Jwe(e:Eff)(a:Option Nat)(u:PV):e.app (s.put a u)=(e.app s).put a u:=by
 cases a with
 | none=>cases e <;> rfl
 | some i=>
  have em:(e.app s).m=s.m:=by cases e <;> rfl
  have et:(e.app s).tm=s.tm:=by cases e <;> rfl
  by_cases hi:i+s.m<s.tm.length
  ·rw [s.put_in u hi,PSt.put_in _ u (by rw [em,et]; exact hi)];cases e <;> rfl
  ·rw [s.put_out u hi,PSt.put_out _ u (by rw [em,et]; exact hi)]
theorem Jom{o:Oper}{f:Operand}{args:List Operand}(h:Vd o.op=some (f,args)):f∈o.op.operands/\∀ x∈args,x∈o.op.operands:=by
 obtain ⟨c,h1,h2,h3⟩:=Ym h;rw [h1];simp only [Op.operands,Call.operands,h2,<- h3];exact ⟨by simp,fun x hx=>by simp only [Array.mem_append]; exact .inr (by simpa using hx)⟩
theorem Jya{o:Oper}{y:Operand×List Operand}(h:Vd o.op=some y):Zf o.op=.pure:=by
 obtain ⟨f,args⟩:=y;obtain ⟨c,h1,h2,h3⟩:=Ym h;rw [h1]; simp [Zf,h2]
def Ir(s s':PSt):Prop:=∀ t N',Tb t=true->s.T t=some (N',0)->s'.X t=s.X t/\s'.T t=s.T t
theorem Ir.of_eq{s s':PSt}(hT:s'.T=s.T)(hX:s'.X=s.X):Ir s s':=fun t _ _ _=>⟨by rw [hX],by rw [hT]⟩
theorem Jtx{ts:List Nat}(hts:(ts.all Tb)=true){s s':PSt}(hk:Ir s s'){p:PV}{q:PV×List (Nat×Nat)}(h:bd1 ts s p=some q):bd1 ts s' p=some q:=by
 cases p
 case ex t k b N o n=>
  simp only [bd1] at h ⊢;cases hc:ts.contains t with
  | false=>rw [hc] at h; cases h
  | true=>
   rw [hc] at h;have ht:Tb t=true:=aG.1 hts t (by simpa using hc);simp only at h ⊢;split at h
   ·rename_i k' b' xss N' e1 e2;obtain ⟨h1,h2⟩:=hk t N' ht e2;rw [h1,h2,e1,e2];exact h
   ·cases h
 all_goals exact h
theorem Js5{ts:List Nat}(hts:(ts.all Tb)=true){s s':PSt}(hk:Ir s s'):∀ {ps:List PV} {q:List PV×List (Nat×Nat)},bdL ts s ps=some q->bdL ts s' ps=some q
 | [],q,h=>h
 | p::ps,q,h=>by
  simp only [bdL] at h ⊢;split at h
  ·rename_i x y e1 e2;rw [Jtx hts hk e1,Js5 hts hk e2]; exact h
  ·cases h
theorem Jz8{ts:List Nat}(hts:(ts.all Tb)=true){s s':PSt}(hk:Ir s s'){p:PV}{q:PV×List (Nat×Nat)}(h:bdA ts s p=some q):bdA ts s' p=some q:=by
 cases p
 case agg cs=>
  simp only [bdA] at h ⊢;obtain ⟨x,h1,rfl⟩:=aC.1 h;rw [Js5 hts hk h1]; rfl
 all_goals
  simp only [bdA] at h ⊢;exact Jtx hts hk h
theorem Jo4{ts:List Nat}(hts:(ts.all Tb)=true){s s':PSt}(hk:Ir s s'):∀ {ps:List PV} {q:List PV×List (Nat×Nat)},Jcm ts s ps=some q->Jcm ts s' ps=some q
 | [],q,h=>h
 | p::ps,q,h=>by
  simp only [Jcm] at h ⊢;split at h
  ·rename_i x y e1 e2;rw [Jz8 hts hk e1,Jo4 hts hk e2]; exact h
  ·cases h
def Kff(T:Nat->Option (Nat×Nat)):Eff->Prop
 | .tok t _ k=>k≠0/\(T t=none\/∃ n,T t=some (n,k))
 | .xs t _=>Tb t=false
 | _=>True
theorem Jlb{t e:TypeId}{k b:Nat}(h:Jf5 P t=some (e,k,b)):k≠0:=let ⟨_,_,_,_,_,_,_,_,k7⟩:=Ps h; k7
theorem Jsu{dst:Option Nat}{op:Op}{ρ:Operand->PV}{H:Nat->Option Qg}{T:Nat->Option (Nat×Nat)}{X:XT}{v:PV}{e:Eff}(h:evO P Gl dst op ρ H T X=some (v,e)):Kff T e:=by
 unfold evO at h;split at h
 ·cases op <;> simp only [evE] at h <;> try cases h
  case alloc t=>
   split at h
   ·split at h
    ·cases h; trivial
    ·cases h
   ·cases h
  case box t x=>
   split at h
   ·split at h
    ·cases h; trivial
    ·cases h
   ·cases h
  case store t x y=>
   split at h
   ·split at h
    ·split at h
     ·cases h; trivial
     ·cases h
    ·cases h
   ·split at h
    ·split at h
     ·rename_i hc;obtain ⟨cs,_,hl⟩:=aT.1 h;split at hl
      ·cases hl;have hlt:=(by simpa using (Bool.and_eq_true_iff.1 hc.1).2)
       exact hlt
      ·cases hl
     ·cases h
    ·cases h
   ·cases h
  case buildSlice t n parts=>
   split at h
   ·split at h
    ·cases h; trivial
    ·cases h
   ·cases h
  case makeMap t r=>
   split at h
   ·split at h
    ·cases h; trivial
    ·cases h
   ·cases h
  case makeSlice t n c=>
   split at h
   ·split at h
    ·rename_i hc;split at h
     ·cases h;exact ⟨Jlb (by assumption),.inl hc.2⟩
     ·cases h
    ·cases h
   ·cases h
  case mapUpdate t m k x=>
   split at h
   ·split at h
    ·split at h
     ·obtain ⟨es',_,he⟩:=aC.1 h;cases he; trivial
     ·cases h
    ·obtain ⟨es',tk',he⟩:=Jg9 h;subst he; trivial
    ·cases h
   ·cases h
  case call c=>
   split at h
   ·unfold Se at h;split at h
    ·split at h
     ·split at h
      ·split at h
       ·rename_i hT;split at h
        ·cases h; exact ⟨Jlb (by assumption),.inl hT⟩
        ·cases h
       ·cases h
      ·split at h
       ·rename_i hT;split at h
        ·cases h; exact ⟨Jlb (by assumption),.inl hT.2.2⟩
        ·cases h
       ·cases h
      ·split at h
       ·rename_i hT;split at h
        ·cases h; exact ⟨Jlb (by assumption),.inr ⟨_,hT.2.2⟩⟩
        ·cases h
       ·cases h
      ·cases h
     ·cases h
    ·cases h
   ·cases h
 ·obtain ⟨p,_,he⟩:=aC.1 h;cases he; trivial
theorem Ka2{e:Eff}(h:Kff s.T e):Ir s (e.app s):=by
 intro t N' ht hT;cases e with
 | none=>exact ⟨rfl,rfl⟩
 | obj l ob=>exact ⟨rfl,rfl⟩
 | tok t0 n k=>
  refine ⟨rfl, ?_⟩;show upd s.T t0 _ t=_
  by_cases q:t=t0
  ·subst q;obtain ⟨h1,h2|⟨n',h2⟩⟩:=h
   ·rw [h2] at hT; cases hT
   ·rw [h2] at hT; simp only [aO,aK] at hT; exact absurd hT.2 h1
  ·rw [Ka _ _ _ _ q]
 | xs t0 x=>
  refine ⟨?_,rfl⟩;show upd s.X t0 _ t=_;have h:Tb t0=false:=h;rw [Ka _ _ _ _ (by rintro rfl; rw [h] at ht; cases ht)]
theorem Kaa{e:Eff}(h:Kff s.T e):Ir (e.app s) s:=by
 intro t N' ht hT;cases e with
 | none=>exact ⟨rfl,rfl⟩
 | obj l ob=>exact ⟨rfl,rfl⟩
 | tok t0 n k=>
  refine ⟨rfl, ?_⟩;have hT:upd s.T t0 (some (n,k)) t=some (N',0):=hT;show _=upd s.T t0 _ t
  by_cases q:t=t0
  ·subst q;rw [Kn] at hT;simp only [aO,aK] at hT; exact absurd hT.2 h.1
  ·rw [Ka _ _ _ _ q]
 | xs t0 x=>
  refine ⟨?_,rfl⟩;show _=upd s.X t0 _ t;have h:Tb t0=false:=h;rw [Ka _ _ _ _ (by rintro rfl; rw [h] at ht; cases ht)]
theorem Jq5{o:Oper}{x:PV×Eff}:(Yo o x s).T=(x.2.app s).T:=(PSt.put_H _ _ _).2.1
theorem Jvj{o:Oper}{x:PV×Eff}:(Yo o x s).X=(x.2.app s).X:=(PSt.put_H _ _ _).2.2
theorem Ir.goTo_r{s s':PSt}{o:Oper}{x:PV×Eff}(h:Ir s (x.2.app s')):Ir s (Yo o x s'):=fun t N' h1 h2=>by rw [Jq5,Jvj]; exact h t N' h1 h2
theorem Ir.goTo_l{s s':PSt}{o:Oper}{x:PV×Eff}(h:Ir (x.2.app s) s'):Ir (Yo o x s) s':=fun t N' h1 h2=>by rw [Jq5] at h2; rw [Jq5,Jvj]; exact h t N' h1 h2
theorem Ql.pure{o:Oper}{x:PV×Eff}(hc:Zf o.op=.pure)(h:Ql P Gl o x s):x.2=.none/\∀ s':PSt,(∀ y∈o.op.operands,s'.ev y=s.ev y)->Ir s s'->Ql P Gl o x s':=by
 unfold Ql at h ⊢;cases hcall:Vd o.op with
 | some y=>
  obtain ⟨f,args⟩:=y;simp only [hcall] at h ⊢;obtain ⟨e,f',caps,as,r,h1,h2,h3,h4⟩:=h;obtain ⟨k1,k2⟩:=Jom hcall;refine ⟨e,fun s' hs hk=>⟨e,f',caps,as,r,by rw [hs f k1]; exact h1,h2,h3, ?_⟩⟩;rw [eC (g:=s.ev) fun y hy=>hs y (k2 y hy)];exact h4.imp id fun ⟨ts,eqs,q1,q2,q3,q4⟩=>⟨ts,eqs,Jo4 q3 hk q1,q2,q3,q4⟩
 | none=>
  simp only [hcall] at h ⊢;obtain ⟨v,e⟩:=x;obtain ⟨h1,h2⟩:=Jzq hc h;exact ⟨h1,fun s' hs _=>by rw [Jfx hs]; exact h2 _ _ _⟩
theorem Ql.ev_iff{o:Oper}{x:PV×Eff}(hc:Zf o.op≠.pure):Ql P Gl o x s↔evO P Gl o.dst o.op s.ev s.H s.T s.X=some x:=by
 unfold Ql;cases hcall:Vd o.op with
 | some y=>exact absurd (Jya hcall) hc
 | none=>exact Iff.rfl
theorem Ql.move{o:Oper}{x:PV×Eff}{s s':PSt}(hc:Zf o.op≠.pure)(hs:∀ y∈o.op.operands,s'.ev y=s.ev y)(h:evO P Gl o.dst o.op s.ev s'.H s'.T s'.X=some x):Ql P Gl o x s':=by
 rw [Ql.ev_iff hc,Jfx hs]; exact h
theorem swap{oi oj:Oper}{x y:PV×Eff}(hap:oi.apart ops oj=true)(hcm:Jnf (Zf oi.op) (Zf oj.op)=true)(hi:Ql P Gl oi x s)(hj:Ql P Gl oj y (Yo oi x s)) :
  Ql P Gl oj y s/\Ql P Gl oi x (Yo oj y s)/\x.2.app (y.2.app s)=y.2.app (x.2.app s):=by
 obtain ⟨a1,a2,a3⟩:=Oper.apart_spec hap;have ej:∀ z∈oj.op.operands,(Yo oi x s).ev z=s.ev z:=fun z hz=>by
  unfold Yo; rw [Jql (fun d hd=>Jfv (a1 d hd) hz),Jqb]
 have ei:∀ z∈oi.op.operands,(Yo oj y s).ev z=s.ev z:=fun z hz=>by
  unfold Yo; rw [Jql (fun d hd=>Jfv (a3 d hd) hz),Jqb]
 have hH:(Yo oi x s).H=(x.2.app s).H:=by unfold Yo; exact (PSt.put_H _ _ _).1
 have hT:(Yo oi x s).T=(x.2.app s).T:=by unfold Yo; exact (PSt.put_H _ _ _).2.1
 have hX:(Yo oi x s).X=(x.2.app s).X:=by unfold Yo; exact (PSt.put_H _ _ _).2.2
 have hH':(Yo oj y s).H=(y.2.app s).H:=by unfold Yo; exact (PSt.put_H _ _ _).1
 have hT':(Yo oj y s).T=(y.2.app s).T:=by unfold Yo; exact (PSt.put_H _ _ _).2.1
 have hX':(Yo oj y s).X=(y.2.app s).X:=by unfold Yo; exact (PSt.put_H _ _ _).2.2
 by_cases pi:Zf oi.op=.pure
 ·obtain ⟨e1,e2⟩:=Ql.pure pi hi;have hTi:(Yo oi x s).T=s.T:=by rw [Jq5,e1]; rfl
  have hXi:(Yo oi x s).X=s.X:=by rw [Jvj,e1]; rfl
  have hkj:Ir s (Yo oj y s):=by
   refine Ir.goTo_r ?_
   by_cases pj:Zf oj.op=.pure
   ·rw [(Ql.pure pj hj).1]; exact fun _ _ _ _=>⟨rfl,rfl⟩
   ·have:=Jsu ((Ql.ev_iff pj).1 hj);rw [hTi] at this;exact Ka2 this
  refine ⟨?_,e2 _ ei hkj,by rw [e1]; rfl⟩
  by_cases pj:Zf oj.op=.pure
  ·exact (Ql.pure pj hj).2 _ (fun z hz=>(ej z hz).symm) (Ir.of_eq hTi.symm hXi.symm)
  ·rw [Ql.ev_iff pj,Jfx ej,hH,hT,hX,e1] at hj;rw [Ql.ev_iff pj]; exact hj
 ·by_cases pj:Zf oj.op=.pure
  ·obtain ⟨e1,e2⟩:=Ql.pure pj hj;have hki:Ir (Yo oi x s) s:=Ir.goTo_l (Kaa (Jsu ((Ql.ev_iff pi).1 hi)));refine ⟨e2 _ (fun z hz=>(ej z hz).symm) hki, ?_,by rw [e1]; rfl⟩;refine Ql.move pi ei ?_;rw [hH',hT',hX',e1];exact (Ql.ev_iff pi).1 hi
  ·rw [Ql.ev_iff pi] at hi;rw [Ql.ev_iff pj,Jfx ej,hH,hT,hX] at hj;obtain ⟨v,e⟩:=x;obtain ⟨u,f⟩:=y;simp only at hj hH' hT' hX' ⊢;rw [Ql.ev_iff pj];have fin:evO P Gl oj.dst oj.op s.ev s.H s.T s.X=some (u,f)->evO P Gl oi.dst oi.op s.ev (f.app s).H (f.app s).T (f.app s).X=some (v,e)->e.app (f.app s)=f.app (e.app s) ->
     evO P Gl oj.dst oj.op s.ev s.H s.T s.X=some (u,f)/\Ql P Gl oi (v,e) (Yo oj (u,f) s)/\e.app (f.app s)=f.app (e.app s):=fun q1 q2 q3=>
    ⟨q1,Ql.move pi ei (by rw [hH',hT',hX']; exact q2),q3⟩
   cases ci:Zf oi.op <;> first|exact absurd ci pi|skip
   case rd=>
    obtain ⟨rfl,r1,r2⟩:=Je8 (by rw [ci]; rfl) hi;cases cj:Zf oj.op <;> first|exact absurd cj pj|(rw [ci,cj] at hcm; cases hcm; done)|skip
    case rd=>
     obtain ⟨rfl,_,_⟩:=Je8 (by rw [cj]; rfl) hj;exact fin hj hi rfl
    case ld=>
     obtain ⟨rfl,_,_⟩:=Je8 (by rw [cj]; rfl) hj;exact fin hj hi rfl
    case al=>
     obtain ⟨d,ob,k1,rfl,_,k2⟩:=Jcn cj hj;exact fin hj (r2 d _ _ k1) rfl
    case ap=>
     obtain ⟨t,n,k,rfl,_⟩:=Jeg cj hj;exact fin hj (r1 _) rfl
   case ld=>
    obtain ⟨rfl,r1,r2⟩:=Je8 (by rw [ci]; rfl) hi;cases cj:Zf oj.op <;> first|exact absurd cj pj|(rw [ci,cj] at hcm; cases hcm; done)|skip
    case rd=>
     obtain ⟨rfl,_,_⟩:=Je8 (by rw [cj]; rfl) hj;exact fin hj hi rfl
    case ld=>
     obtain ⟨rfl,_,_⟩:=Je8 (by rw [cj]; rfl) hj;exact fin hj hi rfl
    case al=>
     obtain ⟨d,ob,k1,rfl,_,k2⟩:=Jcn cj hj;exact fin hj (r2 d _ _ k1) rfl
    case ap=>
     obtain ⟨t,n,k,rfl,_⟩:=Jeg cj hj;exact fin hj (r1 _) rfl
    case ms=>
     obtain ⟨l,ob,ob',k1,rfl⟩:=Kez cj hj;exact fin hj (Kd8 ci hi k1.1 k1.2) rfl
   case al=>
    obtain ⟨d,ob,k1,rfl,k0,k2⟩:=Jcn ci hi;cases cj:Zf oj.op <;> first|exact absurd cj pj|(rw [ci,cj] at hcm; cases hcm; done)|skip
    case al=>
     obtain ⟨d',ob',m1,rfl,m0,m2⟩:=Jcn cj hj;have hne:d'≠d:=fun e=>by subst e; simp [Eff.app,upd] at m1
     have m1':s.H d'=none:=by
      have:upd s.H d (some ob) d'=none:=m1
      rwa [Ka _ _ _ _ hne] at this
     refine fin (m2 _ _ _ m1') (k2 _ _ _ ?_) ?_
     ·show upd s.H d' _ d=none;rw [Ka _ _ _ _ (Ne.symm hne)]; exact k1
     ·simp only [Eff.app]; rw [Jl2 _ _ _ _ _ hne]
    case ap=>
     obtain ⟨t,n,k,rfl,m2⟩:=Jeg cj hj;exact fin (m2 _ _) (k2 _ _ _ k1) rfl
   case st=>
    rcases Jq7 (by rw [ci]; rfl) hi with ⟨l,ob,k1,rfl,k2⟩|⟨l,ob,rfl,k2⟩
    ·cases cj:Zf oj.op <;> first|exact absurd cj pj|(rw [ci,cj] at hcm; cases hcm; done)|skip
     case al=>
      obtain ⟨d',ob',m1,rfl,m0,m2⟩:=Jcn cj hj;have hne:d'≠l:=fun e=>by subst e; simp [Eff.app,upd] at m1
      have m1':s.H d'=none:=by
       have:upd s.H l (some ob) d'=none:=m1
       rwa [Ka _ _ _ _ hne] at this
      refine fin (m2 _ _ _ m1') (k2 _ _ ?_) ?_
      ·show upd s.H d' _ l=s.H l;rw [Ka _ _ _ _ (Ne.symm hne)]
      ·simp only [Eff.app]; rw [Jl2 _ _ _ _ _ hne]
     case ap=>
      obtain ⟨t,n,k,rfl,m2⟩:=Jeg cj hj;exact fin (m2 _ _) (k2 _ _ rfl) rfl
    ·cases cj:Zf oj.op <;> first|exact absurd cj pj|(rw [ci,cj] at hcm; cases hcm; done)|skip
     case al=>
      obtain ⟨d',ob',m1,rfl,m0,m2⟩:=Jcn cj hj;exact fin (m2 _ _ _ m1) (k2 _ _) rfl
     case ap=>
      obtain ⟨t,n,k,rfl,m2⟩:=Jeg cj hj;exact fin (m2 _ _) (k2 _ _) rfl
   case ms=>
    rcases Jq7 (by rw [ci]; rfl) hi with ⟨l,ob,k1,rfl,k2⟩|⟨l,ob,rfl,k2⟩
    ·cases cj:Zf oj.op <;> first|exact absurd cj pj|(rw [ci,cj] at hcm; cases hcm; done)|skip
     case al=>
      obtain ⟨d',ob',m1,rfl,m0,m2⟩:=Jcn cj hj;have hne:d'≠l:=fun e=>by subst e; simp [Eff.app,upd] at m1
      have m1':s.H d'=none:=by
       have:upd s.H l (some ob) d'=none:=m1
       rwa [Ka _ _ _ _ hne] at this
      refine fin (m2 _ _ _ m1') (k2 _ _ ?_) ?_
      ·show upd s.H d' _ l=s.H l;rw [Ka _ _ _ _ (Ne.symm hne)]
      ·simp only [Eff.app]; rw [Jl2 _ _ _ _ _ hne]
     case ap=>
      obtain ⟨t,n,k,rfl,m2⟩:=Jeg cj hj;exact fin (m2 _ _) (k2 _ _ rfl) rfl
    ·cases cj:Zf oj.op <;> first|exact absurd cj pj|(rw [ci,cj] at hcm; cases hcm; done)|skip
     case al=>
      obtain ⟨d',ob',m1,rfl,m0,m2⟩:=Jcn cj hj;exact fin (m2 _ _ _ m1) (k2 _ _) rfl
     case ap=>
      obtain ⟨t,n,k,rfl,m2⟩:=Jeg cj hj;exact fin (m2 _ _) (k2 _ _) rfl
   case ap=>
    obtain ⟨t,n,k,rfl,k2⟩:=Jeg ci hi;cases cj:Zf oj.op <;> first|exact absurd cj pj|(rw [ci,cj] at hcm; cases hcm; done)|skip
    case rd=>
     obtain ⟨rfl,m1,_⟩:=Je8 (by rw [cj]; rfl) hj;exact fin (m1 _) hi rfl
    case ld=>
     obtain ⟨rfl,m1,_⟩:=Je8 (by rw [cj]; rfl) hj;exact fin (m1 _) hi rfl
    case al=>
     obtain ⟨d',ob',m1,rfl,m0,m2⟩:=Jcn cj hj;exact fin (m2 _ _ _ m1) (k2 _ _) rfl
    case st=>
     rcases Jq7 (by rw [cj]; rfl) hj with ⟨l,ob,m1,rfl,m2⟩|⟨l,ob,rfl,m2⟩
     ·exact fin (m2 _ _ rfl) (k2 _ _) rfl
     ·exact fin (m2 _ _) (k2 _ _) rfl
    case ms=>
     rcases Jq7 (by rw [cj]; rfl) hj with ⟨l,ob,m1,rfl,m2⟩|⟨l,ob,rfl,m2⟩
     ·exact fin (m2 _ _ rfl) (k2 _ _) rfl
     ·exact fin (m2 _ _) (k2 _ _) rfl
   case bad=>rw [ci] at hcm; cases hcm
theorem Ql.congr{o:Oper}{x:PV×Eff}{s s':PSt}(hs:∀ y∈o.op.operands,s'.ev y=s.ev y)(hH:s'.H=s.H)(hT:s'.T=s.T)(hX:s'.X=s.X)(h:Ql P Gl o x s):Ql P Gl o x s':=by
 by_cases pc:Zf o.op=.pure
 ·exact (Ql.pure pc h).2 _ hs (Ir.of_eq hT hX)
 ·refine Ql.move pc hs ?_;rw [hH,hT,hX]; exact (Ql.ev_iff pc).1 h
theorem Ri.swap{oi oj:Oper}{x y:PV×Eff}(hap:oi.apart ops oj=true)(hcm:Jnf (Zf oi.op) (Zf oj.op)=true)(hi:Ri P Gl ops oi x s)(hj:Ri P Gl ops oj y (Yo oi x s)) :
  Ri P Gl ops oj y s/\Ri P Gl ops oi x (Yo oj y s)/\Yo oi x (Yo oj y s)=Yo oj y (Yo oi x s):=by
 obtain ⟨a1,a2,a3⟩:=Oper.apart_spec hap;have ej:∀ z∈oj.op.operands,(Yo oi x s).ev z=s.ev z:=fun z hz=>by
  unfold Yo; rw [Jql (fun d hd=>Jfv (a1 d hd) hz),Jqb]
 have ei:∀ z∈oi.op.operands,(Yo oj y s).ev z=s.ev z:=fun z hz=>by
  unfold Yo; rw [Jql (fun d hd=>Jfv (a3 d hd) hz),Jqb]
 have gj:=Jt9 (s:=s) (x:=x) (o:=oj) (o':=oi) a1;have gi:=Jt9 (s:=s) (x:=y) (o:=oi) (o':=oj) a3;have Em:∀ (o:Oper) (z:PV×Eff),z.2=.none->(Yo o z s).H=s.H/\(Yo o z s).T=s.T/\(Yo o z s).X=s.X:=fun o z hz=>by
  unfold Yo; rw [hz]; exact PSt.put_H _ _ _
 have fin:x.2.app (y.2.app s)=y.2.app (x.2.app s)->Yo oi x (Yo oj y s)=Yo oj y (Yo oi x s):=fun h=>by
  unfold Yo;rw [Jwe,Jwe,h,Jrt a2]
 unfold Ri at hi hj ⊢;rw [gj] at hj;rw [gi];rcases hi with ⟨g1,h1⟩|⟨g1,rfl⟩
 ·rcases hj with ⟨g2,h2⟩|⟨g2,rfl⟩
  ·obtain ⟨k1,k2,k3⟩:=PM.swap hap hcm h1 h2;exact ⟨.inl ⟨g2,k1⟩,.inl ⟨g1,k2⟩,fin k3⟩
  ·obtain ⟨q1,q2,q3⟩:=Em oj (.tup [],.none) rfl;exact ⟨.inr ⟨g2,rfl⟩,.inl ⟨g1,h1.congr ei q1 q2 q3⟩,fin rfl⟩
 ·rcases hj with ⟨g2,h2⟩|⟨g2,rfl⟩
  ·obtain ⟨q1,q2,q3⟩:=Em oi (.tup [],.none) rfl;exact ⟨.inl ⟨g2,h2.congr (fun z hz=>(ej z hz).symm) q1.symm q2.symm q3.symm⟩,.inr ⟨g1,rfl⟩,fin rfl⟩
  ·exact ⟨.inr ⟨g2,rfl⟩,.inr ⟨g1,rfl⟩,fin rfl⟩
def dep(md:Region.Mode)(ops:Array Oper)(i:Nat):Nat->Nat->Bool
 | 0,_=>false
 | n+1,j=>match ops[j]? with
  | some o=>o.after.any fun e=>Region.binds md e&&(e.on == i||dep md ops i n e.on)
  | none=>false
def Jlv(md:Region.Mode)(ops:Array Oper)(listed:Array Bool):Prop:=∀ i j n,listed.getD i true=false->listed.getD j false=true->dep md ops i n j=false
theorem Juv{l:Array Bool}{i:Nat}(h:l.getD i true=false):l.getD i false=false:=by
 rcases Nat.lt_or_ge i l.size with h'|h'
 ·simp [h'] at h ⊢; exact h
 ·simp [Array.getElem?_eq_none h'] at h
theorem Jou{listed:Array Bool}{i j:Nat}(hI:Jlv md ops listed)(hj:j∈Region.ready md ops listed)(hi:listed.getD i true=false):∀ n,dep md ops i n j=false
 | 0=>rfl
 | n+1=>by
  obtain ⟨_,oj,hoj,hall⟩:=mem_ready.1 hj;simp only [dep,hoj];rw [Array.any_eq_false'];intro e he hb;simp only [aF,cM,beq_iff_eq] at hb;have h1:=hall e he hb.1;rcases hb.2 with h2|h2
  ·rw [h2,Juv hi] at h1; cases h1
  ·rw [hI i e.on n hi h1] at h2; cases h2
theorem Jlv.list{listed:Array Bool}{j:Nat}(hI:Jlv md ops listed)(hj:j∈Region.ready md ops listed):Jlv md ops (listed.setIfInBounds j true):=by
 intro i k n hi hk
 by_cases hij:j=i
 ·subst hij;rcases Nat.lt_or_ge j listed.size with h'|h'
  ·simp [cJ,h'] at hi
  ·simp [cJ] at hi
 ·rw [getD_set_ne true hij] at hi
  by_cases hjk:j=k
  ·subst hjk; exact Jou hI hj hi n
  ·rw [getD_set_ne false hjk] at hk;exact hI i k n hi hk
theorem Jlq{Q:PSt->Prop}{i:Nat}{oi:Oper}{x:PV×Eff}(hi:ops[i]? = some oi):∀ (fuel:Nat) (listed:Array Bool) (s:PSt),Jlv md ops listed ->
  (∀ j oj,ops[j]? = some oj->j≠i->listed.getD j true=false->(∀ n,dep md ops i n j=false)->oi.apart ops oj=true/\Jnf (Zf oi.op) (Zf oj.op)=true) ->
   i∈Region.ready md ops listed->Ri P Gl ops oi x s->Joo P Gl md ops Q fuel (listed.setIfInBounds i true) (Yo oi x s)->Joo P Gl md ops Q (fuel+1) listed s:=by
 intro fuel;induction fuel with
 | zero=>
  intro listed s _ _ hr hy Hh;refine ⟨fun h=>(by rw [h] at hr; cases hr),fun j hj=>?_⟩
  by_cases hji:j=i
  ·subst hji; exact ⟨oi,hi,Jc1.2 ⟨x,hy,Hh⟩⟩
  ·have:=ready_mono hj hji;rw [Hh.1] at this;cases this
 | succ fuel ih=>
  intro listed s hI hfree hr hy Hh;refine ⟨fun h=>(by rw [h] at hr; cases hr),fun j hj=>?_⟩
  by_cases hji:j=i
  ·subst hji; exact ⟨oi,hi,Jc1.2 ⟨x,hy,Hh⟩⟩
  ·obtain ⟨oj',hoj',h1⟩:=Hh.2 j (ready_mono hj hji);obtain ⟨hjun,oj,hoj,hall⟩:=mem_ready.1 hj;rw [hoj] at hoj';have hjj:=cN hoj';subst hjj;have hnot:=Jou hI hj (mem_ready.1 hr).1;obtain ⟨hap,hcm⟩:=hfree j oj hoj hji hjun hnot;obtain ⟨y,hyj,hK⟩:=Jc1.1 h1;obtain ⟨k1,k2,k3⟩:=Ri.swap hap hcm hy hyj;refine ⟨oj,hoj,Jc1.2 ⟨y,k1,ih (listed.setIfInBounds j true) _ (hI.list hj) (fun k ok hk hki hun hno=>?_) (ready_mono hr (Ne.symm hji)) k2 ?_⟩⟩
   ·refine hfree k ok hk hki ?_ hno
    by_cases hjk:j=k
    ·subst hjk; exact hjun
    ·rw [getD_set_ne true hjk] at hun; exact hun
   ·rw [k3,Array.setIfInBounds_comm _ _ hji];exact hK
def Kes(ms:List Nat)(es:List Edge):Nat:=es.foldl (fun acc e=>if Region.binds .any e=true then (acc ||| (1 <<< e.on)) ||| ms.getD e.on 0 else acc) 0
def Jmr : List Oper->List Nat->List Nat
 | [],ms=>ms
 | o::r,ms=>Jmr r (ms++[Kes ms o.after.toList])
def Jl0(ops:Array Oper)(ms:List Nat):Prop:=∀ (j m i:Nat),ms[j]? = some m->m.testBit i=true->∃ n,dep .any ops i n j=true
theorem Jj8{ops:Array Oper}{ms:List Nat}(hm:Jl0 ops ms):∀ (es:List Edge) (acc i:Nat),(es.foldl (fun acc e=>if Region.binds .any e=true then (acc ||| (1 <<< e.on)) ||| ms.getD e.on 0 else acc) acc).testBit i=true->acc.testBit i=true\/∃ e∈es,Region.binds .any e=true/\(e.on=i\/∃ n,dep .any ops i n e.on=true)
 | [],acc,i,h=>.inl h
 | e::es,acc,i,h=>by
  rw [List.foldl_cons] at h;rcases Jj8 hm es _ i h with h1|⟨e',h2,h3⟩
  ·by_cases hb:Region.binds .any e=true
   ·rw [if_pos hb,Nat.testBit_or,Nat.testBit_or,cM,cM] at h1;rcases h1 with (h1|h1)|h1
    ·exact .inl h1
    ·refine .inr ⟨e,by simp,hb,.inl ?_⟩;rw [Nat.testBit_shiftLeft] at h1;simp only [aF,decide_eq_true_eq] at h1;have h2:=h1.2
     by_cases hz:i - e.on=0
     ·omega
     ·obtain ⟨q,hq⟩:=Nat.exists_eq_succ_of_ne_zero hz;rw [hq,Nat.testBit_succ] at h2;simp at h2
    ·cases hms:ms[e.on]? with
     | none=>rw [List.getD,hms] at h1; simp at h1
     | some m=>
      rw [List.getD,hms] at h1;exact .inr ⟨e,by simp,hb,.inr (hm e.on m i hms h1)⟩
   ·rw [if_neg hb] at h1; exact .inl h1
  ·exact .inr ⟨e',by simp [h2],h3⟩
theorem Jgz{ops:Array Oper}:∀ (l:List Oper) (ms:List Nat),Jl0 ops ms->(∀ j,l[j]? = ops[ms.length+j]?)->Jl0 ops (Jmr l ms)
 | [],ms,hm,_=>hm
 | o::l,ms,hm,hl=>by
  rw [Jmr];refine Jgz l _ (fun j m i hj hi=>?_) fun j=>?_
  ·rw [aR] at hj
   by_cases hlt:j<ms.length
   ·rw [if_pos hlt] at hj; exact hm j m i hj hi
   ·rw [if_neg hlt] at hj;have hj0:j - ms.length=0:=by
     have:=(aH.1 hj).1;simp at this; omega
    rw [hj0] at hj;simp only [dP,aO] at hj;subst hj;have hjl:j=ms.length:=by omega
    subst hjl;have ho:ops[ms.length]? = some o:=by rw [<- cZ ms.length,<- hl 0]; rfl
    rcases Jj8 hm o.after.toList 0 i hi with h1|⟨e,h2,h3,h4⟩
    ·simp at h1
    ·rcases h4 with h4|⟨n,h4⟩
     ·refine ⟨1, ?_⟩;simp only [dep,ho,Array.any_eq_true'];exact ⟨e,by simpa using h2,by simp [h3,h4]⟩
     ·refine ⟨n+1, ?_⟩;simp only [dep,ho,Array.any_eq_true'];exact ⟨e,by simpa using h2,by simp [h3,h4]⟩
  ·have:=hl (j+1);rw [cU] at this;rw [this,aM,bY];congr 1; omega
def Jti(ms:List Nat)(ops:Array Oper)(listed:Array Bool)(i:Nat):Bool :=
 match ops[i]? with
 | none=>false
 | some oi=>(List.range ops.size).all fun j=>j == i||listed.getD j true||match ops[j]? with
   | some oj=>(ms.getD j 0).testBit i||(oi.apart ops oj&&Jnf (Zf oi.op) (Zf oj.op))
   | none=>true
theorem Jmu{ms:List Nat}(hms:Jl0 ops ms){i:Nat}{oi:Oper}{listed:Array Bool}(hi:ops[i]? = some oi)(h:Jti ms ops listed i=true)(j:Nat)(oj:Oper)(hj:ops[j]? = some oj)(hne:j≠i)(hun:listed.getD j true=false)(hno:∀ n,dep .any ops i n j=false) :
  oi.apart ops oj=true/\Jnf (Zf oi.op) (Zf oj.op)=true:=by
 simp only [Jti,hi,aG,List.mem_range] at h;have h1:=h j (dG.1 hj).1;simp only [hj,cM,beq_iff_eq,hne,false_or,hun,aP,aF] at h1;rcases h1 with h1|h1
 ·cases hm:ms[j]? with
  | none=>rw [List.getD,hm] at h1; simp at h1
  | some m=>
   rw [List.getD,hm] at h1;obtain ⟨n,hn⟩:=hms j m i hm h1;rw [hno] at hn; cases hn
 ·exact h1
def Jxx(ms:List Nat)(ops:Array Oper):Nat->Nat->Array Bool->Bool
 | 0,_,listed=>(Region.ready .any ops listed).isEmpty
 | fuel+1,k,listed=>(Region.ready .any ops listed).contains k&&Jti ms ops listed k&&Jxx ms ops fuel (k+1) (listed.setIfInBounds k true)
theorem Jbe{gd:Gd}{y y' n:Prop}(hy:y->y')(h:Zj gd s y n):Zj gd s y' n:=by
 cases gd with
 | always=>exact hy h
 | never=>exact h
 | bad=>exact h
 | slot t w=>
  simp only [Zj] at h ⊢;split
  ·rename_i b hb;simp only [hb] at h;exact ⟨fun e=>hy (h.1 e),h.2⟩
  ·rename_i hu;simp only [hu] at h;exact h
  ·rename_i hne hnu;split at h
   ·rename_i b hb; exact absurd hb (hne _)
   ·rename_i hu; exact absurd hu hnu
   ·exact h
theorem Jts{Q:PSt->Prop}{ms:List Nat}(hms:Jl0 ops ms):∀ (l:List Oper) (k:Nat) (listed:Array Bool) (s:PSt),Jlv .any ops listed->(∀ j,l[j]? = ops[k+j]?) ->
  Jxx ms ops l.length k listed=true->Ju P Gl true (l.map fun o=>(o,Jb8 ops o)) s Q->Joo P Gl .any ops Q l.length listed s
 | [],_,_,_,_,_,hB,h=>⟨by simpa [Jxx] using hB,h⟩
 | o::l,k,listed,s,hI,hl,hB,h=>by
  have h0:ops[k]? = some o:=by simpa using (hl 0).symm
  simp only [aE,Jxx,aF] at hB;obtain ⟨⟨hr,hf⟩,hB'⟩:=hB;have hr':k∈Region.ready .any ops listed:=by simpa using hr
  simp only [bJ,Ju] at h;obtain ⟨x,hy,hK⟩:=Jc1.1 (show gOp P Gl ops o (fun s'=>Ju P Gl true (l.map fun o=>(o,Jb8 ops o)) s' Q) s from Jbe (y:=Sy P Gl true o s fun s'=>Ju P Gl true (l.map fun o=>(o,Jb8 ops o)) s' Q) (fun q=>Or.resolve_right q fun e=>(by cases e.1)) h);exact Jlq h0 l.length listed s hI (Jmu hms h0 hf) hr' hy
   (Jts hms l (k+1) _ _ (hI.list hr') (fun j=>by have:=hl (j+1); simpa [Nat.add_assoc,Nat.add_comm 1 j] using this) hB' hK)
theorem Jlv.none(n:Nat):Jlv md ops (Array.replicate n false):=by
 intro i j m _ hj;rcases Nat.lt_or_ge j n with h'|h'
 ·simp [cJ,h'] at hj
 ·simp [cJ,h'] at hj
theorem Jy2{Q:Exit->PSt->Prop}{id:Nat}(hm:P.follows .mixedOrders=true)(hB:Jxx (Jmr ops.toList []) ops ops.size 0 (Array.replicate ops.size false)=true)(h:Ju P Gl true (Jda ops) s (Up (Q .normal))) :
  pwp P Gl (.region id ops true) Q s:=fun S0 w0 a w hi=>by
 have hA:=Jts (Q:=Up (Q .normal)) (Jgz ops.toList [] (fun j m i hj=>by simp at hj) sG) ops.toList 0 (Array.replicate ops.size false) s (Jlv.none _) sG (by simpa using hB) h;obtain ⟨g,rfl,hg⟩:=hi;refine wp_region_any hm ?_;have:=Jck (S0:=S0) (w0:=w0) (P:=P) (Gl:=Gl) (Q':=fun e a' w'=>∃ s',Q e s'/\Inv Gl S0 w0 s' a' w') (fun s' a' w' q i=>let ⟨s2,h1,h2⟩:=q; ⟨s2,h2,i.fade h1⟩) ops.toList.length (Array.replicate ops.size false) s a _ ⟨_,rfl,hg.drew.1⟩ hA
 simpa using this
end
end PM
namespace PM
open Go Go.RowKit
def w64(n:Int):Int:=IntKind.i64.wrap n
def Wk{α β:Type}(f:α->Option β)(o:α⊕β):Option β:=match o with|.inl v=>f v|.inr b=>some b
def onInl{α β:Type}(D:Option (α⊕β))(f:α->Option β):Option β:=D.bind (Wk f)
section
variable {α β σ:Type}
theorem Kdr{D:Option (α⊕β)}{f:α->Option β}{r:β}(h:onInl D f=some r):∃ o,D=some o/\Wk f o=some r:=Qp h
theorem o_outl{f:α->Option β}{v:α}{r:β}(h:Wk f (.inl v)=some r):f v=some r:=h
theorem o_outr{f:α->Option β}{b r:β}(h:Wk f (.inr b)=some r):some b=some r:=h
variable {P:Program} {Gl:GL} {s:PSt} {Q:Exit->PSt->Prop} {n k:Nat}
def Wkr(s s':PSt):Prop:=∀ (Gl:GL) (S0:Bs) (w0:World) (a:Act) (w:World),Inv Gl S0 w0 s a w->Inv Gl S0 w0 s' a w
theorem Wkr.of{j:JS}(hok:j.ok=true)(h:j.seen s=j.told n):Wkr s (j.st n):=fun _ _ _ _ _ hi=>hi.weak (JS.weaker hok h)
theorem Wkr.trans{s1 s2 s3:PSt}(h:Wkr s1 s2)(h':Wkr s2 s3):Wkr s1 s3:=fun Gl S0 w0 a w hi=>h' Gl S0 w0 a w (h Gl S0 w0 a w hi)
theorem Kw{s':PSt}{c:Code}(hw:Wkr s s')(h:pwp P Gl c Q s'):pwp P Gl c Q s:=fun S0 w0 a w hi=>h S0 w0 a w (hw Gl S0 w0 a w hi)
def Jcc(J:α->JS)(n:Nat)(Q:Exit->PSt->Prop)(o:α⊕β)(e:Exit)(s':PSt):Prop :=
 match o with
 | .inl v=>e=.normal/\Wkr s' ((J v).st n)
 | .inr _=>e≠.normal/\Q e s'
section
variable {J:α->JS} {v:α} {b:β}
theorem q_join(hok:(J v).ok=true)(h:(J v).seen s=(J v).told n):Jcc (β:=β) J n Q (.inl v) .normal s:=⟨rfl,.of hok h⟩
theorem Kft{s':PSt}(hs:Wkr s' s)(hok:(J v).ok=true)(h:(J v).seen s=(J v).told n):Jcc (β:=β) J n Q (.inl v) .normal s':=⟨rfl,hs.trans (.of hok h)⟩
theorem Kdo(h:Q (.exit k) s):Jcc J n Q (.inr b) (.exit k) s:=⟨by simp,h⟩
theorem Kfh(h:Q .ret s):Jcc J n Q (.inr b) .ret s:=⟨by simp,h⟩
theorem Kfd{x y:Code}{o:α⊕β}(n:Nat)(J:α->JS)(h1:pwp P Gl x (Jcc J n Q o) s)(h2:∀ v,o=.inl v->pwp P Gl y Q ((J v).st n)):pwp P Gl (.seq x y) Q s:=by
 refine Kb (Si (fun e s' hp=>?_) h1);cases o with
 | inl v=>
  obtain ⟨rfl,h3⟩:=hp;exact Kw h3 (h2 v rfl)
 | inr b=>
  obtain ⟨h3,h4⟩:=hp;cases e <;> first|exact absurd rfl h3|exact h4
end
def Jb9(J:σ->JS)(J0:α->JS)(n id:Nat)(Q:Exit->PSt->Prop)(r:α⊕β)(o:σ⊕(α⊕β))(e:Exit)(s':PSt):Prop :=
 match o with
 | .inl v'=>e=.normal/\(J v').seen s'=(J v').told n
 | .inr (.inl v)=>e=.exit id/\Wkr s' ((J0 v).st n)
 | .inr (.inr b)=>.inr b=r->e≠.normal/\Q e s'
section
variable {J:σ->JS} {J0:α->JS} {id:Nat} {v':σ} {v:α} {b:β} {r:α⊕β}
theorem Kgr(h:(J v').seen s=(J v').told n):Jb9 J J0 n id Q r (.inl v') .normal s:=⟨rfl,h⟩
theorem Kgp(hok:(J0 v).ok=true)(h:(J0 v).seen s=(J0 v).told n):Jb9 J J0 n id Q r (.inr (.inl v)) (.exit id) s:=⟨rfl,.of hok h⟩
theorem Kei(h:.inr b=r->Q .ret s):Jb9 J J0 n id Q r (.inr (.inr b)) .ret s:=fun e=>⟨by simp,h e⟩
theorem Kce{step:σ->Option (σ⊕(α⊕β))}{v:σ}{c:Code}(n id:Nat)(J:σ->JS)(J0:α->JS)(hl:Jq step v=some r)(h0:(J v).seen s=(J v).told n)(hok:∀ v,(J v).ok=true)(hb:∀ v o,step v=some o->pwp P Gl c (Jb9 J J0 n id Q r o) ((J v).st n))(h2:∀ v s',r=.inl v->Wkr s' ((J0 v).st n)->Q (.exit id) s'):pwp P Gl (.loop c) Q s:=by
 refine Ke1 n J hl h0 hok fun v o hv=>Si (fun e s' hp=>?_) (hb v o hv);rcases o with v'|v|b
 ·exact hp
 ·obtain ⟨he,hq⟩:=hp;subst he;exact fun e=>⟨by simp,h2 v s' e.symm hq⟩
 ·exact hp
end
section
variable {d:Bool} {L:List (Oper×Gd)} {Q:PSt->Prop}
theorem Jaf(m t:Nat)(E:Bool)(h1:∀ x,E=x->Ju P Gl d (L.take m) s fun s'=>Wr s' (Vx m t (.bool x) L s))(h2:Ju P Gl d (L.drop m) (Vx m t (.bool E) L s) (Up Q)):Ju P Gl d L s (Up Q):=Jzg m t _ (h1 E rfl) h2
theorem Kdi{s1:PSt}(m t:Nat)(v:PV)(h1:Ju P Gl d (L.take m) s fun s'=>Wr s' (Vx m t v L s))(h2:Ju P Gl d (L.drop m) (Vx m t v L s) fun s'=>Wr s' s1):Ju P Gl d L s fun s'=>Wr s' s1 :=
 Gw (fun _ hu=>let ⟨_,h3,h4⟩:=hu; h3.trans h4) _ _ (Jzg (Q:=fun s'=>Wr s' s1) m t v h1 (Gw (fun _ h=>.intro h) _ _ h2))
theorem Jud{s1:PSt}(m t:Nat)(E:Bool)(h1:∀ x,E=x->Ju P Gl d (L.take m) s fun s'=>Wr s' (Vx m t (.bool x) L s))(h2:Ju P Gl d (L.drop m) (Vx m t (.bool E) L s) fun s'=>Wr s' s1):Ju P Gl d L s fun s'=>Wr s' s1:=Kdi m t _ (h1 E rfl) h2
end
theorem Kd.reput{S0:Bs}{w0:World}{a:Act}{g:GG}(h:Kd Gl S0 w0 s a g)(i:Nat){p:PV}(hv:Rel g p (a.tmps.getD i undef)):Kd Gl S0 w0 (s.put (some i) p) a g:=by
 have hl:=h.len.1
 by_cases hi:i+s.m<s.tm.length
 ·rw [s.put_in p hi];refine { h with hH:=h.hH,hT:=h.hT,len:=⟨by simpa using hl,h.len.2⟩,tm:=fun j q u hq hu=>?_ };simp only [cD] at hq
  by_cases hij:i=j
  ·subst hij;rw [if_pos rfl] at hq;split at hq
   ·cases hq;rw [bI (by rw [bB]; omega),bR] at hu
    rwa [cJ,hu] at hv
   ·cases hq
  ·rw [if_neg hij] at hq; exact h.tm j q u hq hu
 ·rw [s.put_out p hi]; exact h
theorem Kd.nilOwn{S0:Bs}{w0:World}{a:Act}{g:GG}(h:Kd Gl S0 w0 s a g){i t k b:Nat}(hs:s.get i=.nil)(hT:((s.T t).isNone&&(k != 0))=true) :
  ∃ g',Kd Gl S0 w0 (({ s with T:=upd s.T t (some (0,k)) }:PSt).put (some i) (.lst (.own t) k b [])) a g'/\g'.w=g.w:=by
 have hv:a.tmps.getD i undef=.slice none 0 0:=by
  have:=h.get i;rw [hs] at this
  simpa [Rel,Km,Kh,Js] using this
 obtain ⟨h1,h2⟩:=h.setTok (t:=t) (n:=0) (k:=k) (v:=.slice none 0 0) (fun n0 k0 e=>by rw [h.hT] at e; rw [e] at hT; cases hT) (fun e=>by subst e; simp at hT) (fun g' _ _ e=>.inl ⟨.inl e,rfl⟩) (fun B off cap e _=>by cases e) (h.noX fun n e=>by rw [h.hT] at e; rw [e] at hT; cases hT);refine ⟨_,h1.reput i ?_,rfl⟩;rw [hv];simp only [Rel,Km,Kh,Js,aN];exact ⟨⟨by simp,by simp,.inl trivial,.inl ⟨.inl rfl,trivial⟩⟩,0,Kn _ _ _,aI _,fun _=>by simp⟩
theorem Wh{c:Code}(i t k b:Nat)(hs:s.get i=.nil)(hT:((s.T t).isNone&&(k != 0))=true)(h:pwp P Gl c Q (({ s with T:=upd s.T t (some (0,k)) }:PSt).put (some i) (.lst (.own t) k b []))):pwp P Gl c Q s:=fun S0 w0 a w hi=>by
 obtain ⟨g,rfl,hg⟩:=hi;obtain ⟨g',h1,h2⟩:=hg.nilOwn (k:=k) (b:=b) hs hT;exact h S0 w0 a _ ⟨g',h2,h1⟩
end
end PM
namespace PM
open Go Go.RowKit
section
variable {α:Type} [Enc α] {P:Program} {Gl:GL} {s:PSt} {d:Bool} {Ls:List (Oper×Gd)} {Q:PSt->Prop}
omit [Enc α] in
theorem Jmd{L:List α}{i:Int}{y:α}(h:ixO L i=some y):0<=i/\L[i.toNat]? = some y/\i.toNat<L.length:=by
 unfold ixO at h;split at h
 ·rename_i h0;exact ⟨h0,h,(aH.1 h).1⟩
 ·cases h
def Kap(g m k:Nat)(n:Int):Option (PV×Eff):=(if 0<=n/\n<(m:Int) then some (PV.gptr g (0+n.toNat * k)) else none).map fun v=>(v,Eff.none)
omit [Enc α] in
theorem Kfq{tab:List α}{i:Int}{y:α}(hy:ixO tab i=some y)(g m k:Nat)(hm:tab.length=m)(h:Ix P Gl Ls s=Kap g m k i)(h2:Ju P Gl d (Ls.drop 1) (s.put (Qk Ls) (.gptr g (0+i.toNat * k))) Q):Ju P Gl d Ls s Q:=by
 refine Bu (e:=.none) ?_ h2;obtain ⟨h0,_,h1⟩:=Jmd hy;rw [h];unfold Kap;rw [if_pos ⟨h0,by omega⟩]; rfl
theorem Jps{tab:List α}{k:Nat}(hk:tab.all (fun x=>(cellsOf x).length == k)=true):∀ {i:Nat} {y:α},tab[i]? = some y->∃ r,(tab.flatMap cellsOf).drop (i * k)=cellsOf y++r:=by
 induction tab with
 | nil=>intro i y h; simp at h
 | cons x xs ih=>
  simp only [List.all_cons,aF,beq_iff_eq] at hk;intro i y h;cases i with
  | zero=>
   simp only [dP,aO] at h;subst h;exact ⟨xs.flatMap cellsOf,by simp⟩
  | succ i=>
   simp only [cU] at h;obtain ⟨r,hr⟩:=ih hk.2 h;refine ⟨r, ?_⟩;rw [dV,List.drop_append,cQ (by rw [hk.1,bQ]; omega),hk.1,bQ,dT,hr,List.nil_append]
def Jq3(row:Bool)(n:Nat)(cs:List PV):Option (PV×Eff):=(match row with|true=>if n<=cs.length then some (PV.agg (Jhu n cs)) else none|false=>cs.head?).map fun v=>(v,Eff.none)
theorem Jq1{k:Nat}{c r:List PV}(h:c.length=k):Jhu k (c++r)=c:=by
 unfold Jhu;split
 ·rename_i h1;rw [aM] at h1;have:r=[]:=aQ oG;rw [this,bL]
 ·rw [<- h]; simp
theorem Kbu{tab:List α}{i:Int}{y:α}(hy:ixO tab i=some y)(row:Bool){k o:Nat}(hk0:k≠0)(ho:o=i.toNat * k)(hk:tab.all (fun x=>(cellsOf x).length == k)=true)(hp:(if row=true then PV.agg (cellsOf y) else (cellsOf y).headD .any)=Enc.pv y):Jq3 row k ((tab.flatMap cellsOf).drop o)=some (Enc.pv y,.none):=by
 obtain ⟨_,h1,_⟩:=Jmd hy;obtain ⟨r,hr⟩:=Jps hk h1;have hl:(cellsOf y).length=k:=by
  have:=aG.1 hk y (aD h1)
  simpa using this
 rw [ho,hr];unfold Jq3;cases row with
 | true=>
  simp only [if_true] at hp;simp only [Jq1 hl];rw [if_pos (by rw [aM]; omega),hp]; rfl
 | false=>
  simp only [aP,if_false] at hp;cases hc:cellsOf y with
  | nil=>rw [hc] at hl; exact absurd hl.symm hk0
  | cons a b=>rw [hc] at hp; simp at hp; simp [hp]
theorem Kb7{tab:List α}{i:Int}{y:α}(hy:ixO tab i=some y)(row:Bool)(k:Nat)(hk:(k != 0&&tab.all fun x=>(cellsOf x).length == k)=true)(h:Ix P Gl Ls s=Jq3 row k ((tab.flatMap cellsOf).drop (0+i.toNat * k)))(hp:(if row=true then PV.agg (cellsOf y) else (cellsOf y).headD .any)=Enc.pv y)(h2:Ju P Gl d (Ls.drop 1) (s.put (Qk Ls) (Enc.pv y)) Q):Ju P Gl d Ls s Q:=by
 simp only [aF,bne_iff_ne,ne_eq] at hk;refine Bu (e:=.none) ?_ h2;rw [h];exact Kbu hy row hk.1 oG hk.2 hp
def Jy4(row:Bool)(m k:Nat)(cs:List PV)(n:Int):Option (PV×Eff):=(match row with
 | true=>if 0<=n/\n<(m:Int)/\n.toNat * k+k<=cs.length then some (PV.agg ((cs.drop (n.toNat * k)).take k)) else none
 | false=>if 0<=n/\n<(m:Int) then cs[n.toNat * k]? else none).map fun v=>(v,Eff.none)
theorem Kgj{tab:List α}{i:Int}{y:α}(hy:ixO tab i=some y)(row:Bool)(m k:Nat)(hk:(k != 0&&tab.all fun x=>(cellsOf x).length == k)=true)(hm:tab.length=m)(h:Ix P Gl Ls s=Jy4 row m k (tab.flatMap cellsOf) i)(hp:(if row=true then PV.agg (cellsOf y) else (cellsOf y).headD .any)=Enc.pv y)(h2:Ju P Gl d (Ls.drop 1) (s.put (Qk Ls) (Enc.pv y)) Q):Ju P Gl d Ls s Q:=by
 simp only [aF,bne_iff_ne,ne_eq] at hk;refine Bu (e:=.none) ?_ h2;rw [h];obtain ⟨h0,h1,h3⟩:=Jmd hy;obtain ⟨r,hr⟩:=Jps hk.2 h1;have hl:(cellsOf y).length=k:=by
  have:=aG.1 hk.2 y (aD h1)
  simpa using this
 have hlen:i.toNat * k+k<=(tab.flatMap cellsOf).length:=by
  have:=congrArg List.length hr;rw [bV,aM,hl] at this;have:=hk.1;omega
 have hi:i<(m:Int):=by omega
 unfold Jy4;cases row with
 | true=>
  simp only [if_true] at hp;simp only [hr];rw [if_pos ⟨h0,hi,hlen⟩,<- hl,List.take_left,hp]; rfl
 | false=>
  simp only [aP,if_false] at hp;have hg:(tab.flatMap cellsOf)[i.toNat * k]? = some (Enc.pv y):=by
   rw [<- List.head?_drop,hr,<- hp];cases hc:cellsOf y with
   | nil=>rw [hc] at hl; exact absurd hl.symm hk.1
   | cons a b=>rfl
  simp only;rw [if_pos ⟨h0,hi⟩,hg]; rfl
end
theorem Yr.freeze{P:Program}{Gl:GL}{f:FuncId}{as:List PV}{r r':PV}(h:Yr P Gl f as r)(he:(Jbz r,Ec r' r)=(true,r'))(hl:Fj (fun _=>none) (fun _=>none) r'=true)(ht:(Vj r').isEmpty=true):Yr P Gl f as r':=by
 simp only [aK] at he;have hwk:WkV (fun _=>none) (fun _=>none) r r':=by
  have:=Xw (p:=r') (q:=r) (H:=fun _=>none) (T:=fun _=>none) he.1 (by rw [he.2]; exact hl)
  rwa [he.2] at this
 have ht:Vj r'=[]:=by simpa using ht
 refine ⟨h.1,fun S w vs hS hG hr=>(h.2 S w vs hS hG hr).mono fun e w' ⟨v,g',he,hw,ha⟩=>⟨v,{ g' with H:=fun _=>none,T:=fun _=>none },he,hw, ?_⟩⟩;refine { below:=ha.below,sub:=ha.sub,new:=ha.new,H:=fun _=>rfl,T:=fun t n k=>?_,rel:=ha.rel.weak ⟨fun _ _ h=>(by cases h),fun l cs _ h=>(by cases h)⟩ hwk,owns:=fun t n k h=>(by cases h),ownsEx:=fun t t' B h=>by obtain ⟨n,k,off,cap,h1,_⟩:=h; cases h1 };rw [ht]; simp
def Jn9(x:Option Int)(dflt:Nat):Option Nat :=
 match x with
 | none=>some dflt
 | some n=>if 0<=n then some n.toNat else none
def slO{α:Type}(L:List α)(lo hi mx:Option Int):Option (List α) :=
 match Jn9 lo 0,Jn9 hi L.length,Jn9 mx L.length with
 | some l,some h,some m=>if l<=h/\h<=m/\m<=L.length then some ((L.take h).drop l) else none
 | _,_,_=>none
def pvI : Option Int->Option PV
 | none=>none
 | some n=>some (.int .i64 n)
theorem Jv1(x:Option Int)(n:Nat):bnd (pvI x) n=Jn9 x n:=by cases x <;> rfl
def Jvt(P:Program):List (Oper×Gd)->PSt->Option (Nat×PV×Option PV×Option PV×Option PV)
 | (o,.always)::_,s=>match o.op with
  | .slice t x lo hi mx=>match Xs P t with
   | some (_,_,k,_)=>some (k,s.ev x,lo.map s.ev,hi.map s.ev,mx.map s.ev)
   | none=>none
  | _=>none
 | _,_=>none
section
variable {α:Type} [Enc α] {P:Program} {Gl:GL} {s:PSt} {d:Bool} {Ls:List (Oper×Gd)} {Q:PSt->Prop}
def Jpo(o:Own)(hi mx:Option Int)(n:Nat):Own:=if (pvI mx≠none/\Jn9 mx n=Jn9 hi n)\/(o=.full/\pvI hi=none) then .full else .frozen
theorem Jv8{L M:List α}{lo hi mx:Option Int}(o:Own)(hM:slO L lo hi mx=some M)(hmx:(mx.isSome&&hi.isNone)=false)(h:Jvt P Ls s=some (Enc.k α,Jg o L,pvI lo,pvI hi,pvI mx)):Ix P Gl Ls s=some (Jg (Jpo o hi mx L.length) M,.none):=by
 unfold Jvt at h;split at h
 ·rename_i oo rest s;split at h
  ·rename_i t x lo' hi' mx' hop;split at h
   ·rename_i e row k' b' hel;simp only [aO,aK] at h;obtain ⟨rfl,hx,hlo,hhi,hmx'⟩:=h;simp only [Ix,hop,Vd,evO,Bn,aP,if_false,ev1,hx,hlo,hhi,hmx',Jg,Tv,hel,Jv1,aS];unfold slO at hM;split at hM
    ·rename_i l h1 m e1 e2 e3;rw [e1,e2,e3];split at hM
     ·rename_i hc;cases hM;simp only;rw [if_pos ⟨trivial,hc.1,hc.2.1,hc.2.2,by cases mx <;> cases hi <;> simp_all [pvI]⟩];simp only [aZ,Jpo,e2,e3,List.map_drop,eB,aO]
     ·cases hM
    ·cases hM
   ·cases h
  ·cases h
 ·cases h
theorem Jju{L M:List α}{lo hi mx:Option Int}(hM:slO L lo hi mx=some M)(o:Own)(hmx:(mx.isSome&&hi.isNone)=false)(h:Jvt P Ls s=some (Enc.k α,Jg o L,pvI lo,pvI hi,pvI mx))(hf:(mx.isNone&&(match o with|.full=>hi.isSome|_=>true))=true)(h2:Ju P Gl d (Ls.drop 1) (s.put (Qk Ls) (Jg .frozen M)) Q):Ju P Gl d Ls s Q:=by
 refine Bu (e:=.none) (Jv8 o hM hmx h) ?_;have:Jpo o hi mx L.length=.frozen:=by
  simp only [aF] at hf;unfold Jpo;rw [if_neg];rintro (⟨h1,_⟩|⟨h1,h3⟩)
  ·cases mx <;> simp_all [pvI]
  ·subst h1;cases hi <;> simp_all [pvI]
 rw [this]; exact h2
theorem Kdq{L M:List α}{lo hi mx:Option Int}(hM:slO L lo hi mx=some M)(o:Own)(hmx:(mx.isSome&&hi.isNone)=false)(h:Jvt P Ls s=some (Enc.k α,Jg o L,pvI lo,pvI hi,pvI mx))(hf:(mx.isSome=true/\mx=hi)\/(o=.full/\hi=none))(h2:Ju P Gl d (Ls.drop 1) (s.put (Qk Ls) (Jg .full M)) Q):Ju P Gl d Ls s Q:=by
 refine Bu (e:=.none) (Jv8 o hM hmx h) ?_;have:Jpo o hi mx L.length=.full:=by
  unfold Jpo;rw [if_pos];rcases hf with ⟨h1,h3⟩|⟨h1,h3⟩
  ·subst h3;refine .inl ⟨?_,rfl⟩;cases mx <;> simp_all [pvI]
  ·subst h3;exact .inr ⟨h1,rfl⟩
 rw [this]; exact h2
end
end PM
namespace PM
open Go Go.RowKit
class Key (κ:Type) extends Enc κ where
 deq:DecidableEq κ
 keq:∀ a b:κ,Jdc (pv a) (pv b)=some (decide (a=b))
instance {κ:Type}[Key κ]:DecidableEq κ:=Key.deq
instance : Key Int:={ (inferInstance:Enc Int) with deq:=inferInstance,keq:=fun _ _=>rfl }
instance : Key ByteArray:={ (inferInstance:Enc ByteArray) with deq:=inferInstance,keq:=fun _ _=>rfl }
section
variable {κ ν:Type} [Key κ] [Enc ν]
def Ys(m:List (κ×ν)):List (PV×PV):=m.map fun e=>(Enc.pv e.1,Enc.pv e.2)
def Wx(m:List (κ×ν))(k:κ):Option ν:=(m.find? fun e=>decide (k=e.1)).map (·.2)
def Fy(k:κ)(v:ν):List (κ×ν)->List (κ×ν)
 | []=>[(k,v)]
 | e::es=>if k=e.1 then (k,v)::es else e::Fy k v es
theorem Jhq(k:κ):∀ m:List (κ×ν),Jdz (Enc.pv k) (Ys m)=some ((Wx m k).map Enc.pv)
 | []=>rfl
 | e::es=>by
  have ih:=Jhq k es;unfold Ys Wx at ih ⊢;simp only [bJ,Jdz,Key.keq,List.find?_cons]
  by_cases h:k=e.1
  ·simp [h]
  ·simp only [h,decide_false];exact ih
theorem Jwx(k:κ)(v:ν):∀ m:List (κ×ν),Jdw (Enc.pv k) (Enc.pv v) (Ys m)=some (Ys (Fy k v m))
 | []=>rfl
 | e::es=>by
  have ih:=Jwx k v es;unfold Ys at ih ⊢;simp only [bJ,Jdw,Key.keq,Fy]
  by_cases h:k=e.1
  ·simp [h]
  ·simp only [h,decide_false,if_false,bJ,ih,aZ]
def Kbo(P:Program):List (Oper×Gd)->PSt->Option (Nat×PV×PV×Bool)
 | (o,.always)::_,s=>match o.op with
  | .lookup t x k ok=>match s.ev x,Jci P t with
   | .mp l,some (d,z)=>if Gq d (s.ev k)=true then some (l,s.ev k,Jxo P t z,ok) else none
   | _,_=>none
  | _=>none
 | _,_=>none
def msHd(P:Program):List (Oper×Gd)->PSt->Option (Nat×PV×Option PV)
 | (o,.always)::_,s=>match o.op with
  | .mapUpdate t m k x=>match s.ev m,Jci P t with
   | .mp l,some (d,_)=>if Gq d (s.ev k)=true then some (l,s.ev k,Mg (s.ev x)) else none
   | _,_=>none
  | _=>none
 | _,_=>none
variable {P:Program} {Gl:GL} {s:PSt} {d:Bool} {Ls:List (Oper×Gd)} {Q:PSt->Prop}
theorem Je0{m:List (κ×ν)}{k:κ}(z:ν)(l:Nat)(hH:s.H l=some (.map (Ys m)))(h:Kbo P Ls s=some (l,Enc.pv k,Enc.pv z,false))(h2:Ju P Gl d (Ls.drop 1) (s.put (Qk Ls) (Enc.pv ((Wx m k).getD z))) Q):Ju P Gl d Ls s Q:=by
 refine Bu (e:=.none) ?_ h2;unfold Kbo at h;split at h
 ·rename_i o rest s;split at h
  ·rename_i t x k' ok hop;split at h
   ·rename_i l' d z' hx hm;split at h
    ·rename_i hd;simp only [aO,aK] at h;obtain ⟨rfl,hk,hz,rfl⟩:=h;simp only [Ix,hop,Vd,evO,Bn,aP,if_false,ev1,hx,hH,Nn,hm];rw [if_pos hd,hk,Jhq,hz];simp only [aZ];cases Wx m k <;> rfl
    ·cases h
   ·cases h
  ·cases h
 ·cases h
theorem Jjh{m:List (κ×ν)}{k:κ}(z:ν)(l:Nat)(hH:s.H l=some (.map (Ys m)))(h:Kbo P Ls s=some (l,Enc.pv k,Enc.pv z,true))(h2:Ju P Gl d (Ls.drop 1) (s.put (Qk Ls) (.tup [Enc.pv ((Wx m k).getD z),.bool (Wx m k).isSome])) Q):Ju P Gl d Ls s Q:=by
 refine Bu (e:=.none) ?_ h2;unfold Kbo at h;split at h
 ·rename_i o rest s;split at h
  ·rename_i t x k' ok hop;split at h
   ·rename_i l' d z' hx hm;split at h
    ·rename_i hd;simp only [aO,aK] at h;obtain ⟨rfl,hk,hz,rfl⟩:=h;simp only [Ix,hop,Vd,evO,Bn,aP,if_false,ev1,hx,hH,Nn,hm];rw [if_pos hd,hk,Jhq,hz];simp only [aZ,if_true];cases Wx m k <;> rfl
    ·cases h
   ·cases h
  ·cases h
 ·cases h
theorem Jhh{m:List (κ×ν)}{k:κ}{v:ν}(l:Nat)(hH:s.H l=some (.map (Ys m)))(h:msHd P Ls s=some (l,Enc.pv k,some (Enc.pv v)))(hf:Ti (Enc.pv v)=true)(h2:Ju P Gl d (Ls.drop 1) (({ s with H:=upd s.H l (some (.map (Ys (Fy k v m)))) }:PSt).put (Qk Ls) .any) Q):Ju P Gl d Ls s Q:=by
 refine Bu (v:=.any) (e:=.obj l (.map (Ys (Fy k v m)))) ?_ h2;unfold msHd at h;split at h
 ·rename_i o rest s;split at h
  ·rename_i t x k' y hop;split at h
   ·rename_i l' d z' hx hm;split at h
    ·rename_i hd;simp only [aO,aK] at h;obtain ⟨rfl,hk,hy⟩:=h;simp only [Ix,hop,Vd,evO,Bn,if_true,evE,hx,hH,hm,hy];rw [if_pos ⟨hd,hf⟩,hk,Jwx]
     rfl
    ·cases h
   ·cases h
  ·cases h
 ·cases h
end
section
variable {α:Type} [Enc α] {P:Program} {Gl:GL} {s:PSt} {d:Bool} {Ls:List (Oper×Gd)} {Q:PSt->Prop}
def mkO(α:Type)[Enc α](c:Int):Option (List α):=if 0<=c/\c.toNat * Enc.b α<=Jx/\c.toNat<=Jx then some [] else none
def mkHd(P:Program):List (Oper×Gd)->PSt->Option (Nat×Nat×Nat×PV)
 | (o,.always)::_,s=>match o.op,o.dst with
  | .makeSlice t n c,some d=>match Jf5 P t,s.ev n with
   | some (_,k,b),.int _ n0=>if n0=0/\(s.T d).isNone=true then some (d,k,b,s.ev c) else none
   | _,_=>none
  | _,_=>none
 | _,_=>none
theorem Kdc{c:Int}{M:List α}(tk:Nat)(hM:mkO α c=some M)(h:mkHd P Ls s=some (tk,Enc.k α,Enc.b α,.int .i64 c))(h2:Ju P Gl d (Ls.drop 1) (({ s with T:=upd s.T tk (some ((M.map cellsOf).length,Enc.k α)) }:PSt).put (Qk Ls) (Jg (.own tk) M)) Q):Ju P Gl d Ls s Q:=by
 unfold mkO at hM;split at hM
 ·rename_i hc;cases hM;refine Bu (v:=.lst (.own tk) (Enc.k α) (Enc.b α) []) (e:=.tok tk 0 (Enc.k α)) ?_ h2;unfold mkHd at h;split at h
  ·rename_i o rest;split at h
   ·rename_i t n c' d hop hdst;split at h
    ·rename_i e k b kn n0 hk hn;split at h
     ·rename_i h1;simp only [aO,aK] at h;obtain ⟨rfl,rfl,rfl,hcv⟩:=h;have hT:s.T d=none:=by simpa using h1.2
      simp only [Ix,hop,Vd,evO,Bn,if_true,evE,hk,hdst,hn,hcv];rw [if_pos ⟨h1.1,hT⟩,if_pos hc]
     ·cases h
    ·cases h
   ·cases h
  ·cases h
 ·cases hM
def Jny(b:ByteArray)(i:Int):Option Int:=if 0<=i then (b[i.toNat]?).map fun c=>(c.toNat:Int) else none
def Kbe(b:ByteArray)(n:Int):Option (PV×Eff):=(if (true&&decide (0<=n))=true then (b[n.toNat]?).map fun c=>PV.int .u8 c.toNat else none).map fun v=>(v,Eff.none)
theorem Jln{b:ByteArray}{i y:Int}(hy:Jny b i=some y)(h:Ix P Gl Ls s=Kbe b i)(h2:Ju P Gl d (Ls.drop 1) (s.put (Qk Ls) (.int .u8 y)) Q):Ju P Gl d Ls s Q:=by
 refine Bu (e:=.none) ?_ h2;rw [h];unfold Jny at hy;unfold Kbe;split at hy
 ·rename_i h0;obtain ⟨c,hc,rfl⟩:=aC.1 hy;rw [if_pos (by simpa using h0),hc]; rfl
 ·cases hy
end
section
variable {P:Program} {Gl:GL} {s:PSt} {Q:Exit->PSt->Prop} {S0:Bs} {w0:World} {a:Act} {g:GG}
def nilH(s:PSt)(l off t k b:Nat)(cs:List PV):PSt:={ s with T:=upd s.T t (some (0,k)),H:=upd s.H l (some (.cells (cs.set off (.lst (.own t) k b [])))) }
theorem Kd.nilOwnH(h:Kd Gl S0 w0 s a g){l off t k b:Nat}{cs:List PV}(hl:s.H l=some (.cells cs))(hs:cs[off]? = some .nil)(hT:((s.T t).isNone&&(k != 0))=true) :
  ∃ g',Kd Gl S0 w0 (nilH s l off t k b cs) a g'/\g'.w=g.w:=by
 have hgl:g.H l=some (.cells cs):=by rw [h.hH]; exact hl
 obtain ⟨h1,e1⟩:=h.setTok (t:=t) (n:=0) (k:=k) (v:=.slice none 0 0) (fun n0 k0 e=>by rw [h.hT] at e; rw [e] at hT; cases hT) (fun e=>by subst e; simp at hT) (fun g' _ _ e=>.inl ⟨.inl e,rfl⟩) (fun B off cap e _=>by cases e) (h.noX fun n e=>by rw [h.hT] at e; rw [e] at hT; cases hT);obtain ⟨o1,o2,o3,vs,v1,v2,v3⟩:=h1.objs l (.cells cs) hgl;obtain ⟨h2,e2⟩:=h1.setObj (l:=l) (ob':=.cells (cs.set off (.lst (.own t) k b []))) (w':=g.w) hgl ⟨rfl,rfl,rfl,rfl,fun _ _=>rfl,rfl⟩ (fun cs' e=>by cases e; exact ⟨_,rfl,by simp⟩)
  (fun g' hg' hw'=>by
   refine ⟨vs,⟨by rw [eD]; exact v1.1,fun i p v hp hv=>?_⟩,by rw [hw']; exact v2,by rw [hw']; exact v3⟩;rw [cD] at hp
   by_cases hi:off=i
   ·subst hi;rw [if_pos rfl] at hp;split at hp
    ·cases hp;have hr:=v1.2 off .nil v hs hv;have hv0:v=.slice none 0 0:=by have:=hr.1; simpa [Kh,Js] using this
     refine ⟨?_,hr.2⟩;refine Kh.mono hg' (.lst (.own t) k b []) v ?_;rw [hv0];simp only [Kh,Js,aN];exact ⟨⟨by simp,by simp,.inl trivial,.inl ⟨.inl rfl,trivial⟩⟩,0,Kn _ _ _,aI _,fun _=>by simp⟩
    ·cases hp
   ·rw [if_neg hi] at hp;exact (v1.2 i p v hp hv).mono hg')
 exact ⟨_,h2,rfl⟩
theorem Ob(l off t k b:Nat){cs:List PV}(hl:s.H l=some (.cells cs))(hs:cs[off]? = some .nil)(hT:((s.T t).isNone&&(k != 0))=true):Wkr s (nilH s l off t k b cs):=fun _ _ _ _ _ hi=>by
 obtain ⟨g,rfl,hg⟩:=hi;obtain ⟨g',h1,h2⟩:=hg.nilOwnH (k:=k) (b:=b) hl hs hT;exact ⟨g',h2,h1⟩
end
def Em(ls:List Nat)(H:Nat->Option Qg):Nat->Option Qg:=fun i=>if i∈ls then H i else none
def Kbh(l:Nat)(cs:List PV):PV->PV
 | .ref l' o=>if l'=l then .cptr (cs.drop o) else .ref l' o
 | p=>p
def frz(l:Nat)(cs:List PV)(live:PV->Bool)(p:PV):PV :=
 if live p=true then p else match p with
  | .ref l' o=>if l'=l then .cptr (cs.drop o) else .any
  | .fn f caps=>if (caps.map (Kbh l cs)).all Jvx=true then .fn f (caps.map (Kbh l cs)) else .any
  | _=>.any
def Jwb(l:Nat)(cs:List PV)(ls:List Nat)(s:PSt):PSt:=⟨s.tm.map (frz l cs (Fj (Em ls s.H) s.T)),Em ls s.H,s.T,s.X,s.m⟩
section
variable {P:Program} {Gl:GL} {s:PSt} {Q:Exit->PSt->Prop} {S0:Bs} {w0:World} {a:Act} {g:GG}
theorem Kd.freeze(h:Kd Gl S0 w0 s a g){l:Nat}{cs cs':List PV}{ls:List Nat}(hl:s.H l=some (.cells cs))(hd:Gm cs=some cs')(hn:ls.contains l=false)(hlive:(ls.all fun i=>match s.H i with|some ob=>Jdi (Em ls s.H) s.T ob|none=>true)=true) :
  ∃ g',Kd Gl S0 w0 (Jwb l cs' ls s) a g'/\g'.w=g.w:=by
 have hgl:g.H l=some (.cells cs):=by rw [h.hH]; exact hl
 obtain ⟨o1,o2,o3,vs,v1,v2,v3⟩:=h.objs l _ hgl;have hdat:=Gr v1 hd;have hkeep:∀ i ob,Em ls s.H i=some ob->i∈ls/\g.H i=some ob:=fun i ob e=>by
  unfold Em at e;split at e
  ·rename_i hi; rw [h.hH]; exact ⟨hi,e⟩
  ·cases e
 have hnl:l∉ls:=by simpa using hn
 have hcut:Cut g (Em ls s.H) s.T:=⟨fun t x e=>by rw [h.hT]; exact e,fun i cs2 e hi=>by
  obtain ⟨ob,hob⟩:=aJ.1 hi;obtain ⟨_,e2⟩:=hkeep i ob hob;rw [e] at e2; cases e2;exact ⟨cs2,hob,rfl⟩⟩
 let g1:GG:={ g with H:=Em ls s.H,T:=s.T }
 let g2:GG:={ g with S:=fun B o=>g.S B o\/(B=g.φ l/\o<cs.length),H:=Em ls s.H,T:=s.T }
 have hle:GLe g1 g2:=⟨fun _ _ e=>.inl e,fun _ _ _=>rfl,fun _ _=>rfl,fun i ob e=>⟨rfl,ob,e,fun cs2 q=>⟨cs2,q,rfl⟩⟩,fun t n k e=>⟨n,e,aI _,fun _=>rfl⟩⟩
 have hcells:∀ o,Qw g2.S g2.w (cs'.drop o) (g.φ l) o:=fun o=>by
  rw [Wp];intro i c hc;rw [cH] at hc;obtain ⟨v,hv,hr⟩:=hdat.right hc;have hlt:o+i<cs'.length:=(aH.1 hc).1;have hlen:=Ik hd;have Mz:=v2 (o+i) v hv;rw [aV] at Mz;exact ⟨hr.2.1,.inr ⟨rfl,by omega⟩,v,Mz,hr.1.mono (fun _ _ e=>.inl e) (fun _ _ _=>rfl) (fun _ _=>rfl)⟩
 have hsp:∀ t B,Vq g2 t B->Vq g t B:=by
  rintro t B ⟨n,k,off,cap,h1,h2,h3⟩;exact ⟨n,k,off,cap,hcut.T t _ h1,h2,h3⟩
 have href:∀ o v,v=Value.pointer (some ⟨g.φ l,o,none⟩)->Js g2.S g2.w (.cptr (cs'.drop o)) v:=fun o v e=>by
  simp only [Js]; exact ⟨g.φ l,o,e,hcells o⟩
 refine ⟨g2,{ hH:=rfl,hT:=rfl,defers:=h.defers,len:=by simpa [Jwb] using h.len,tm:=fun i p v hp hv=>?_,sub:=fun B o e=>.inl (h.sub B o e),new:=fun B o e=>?_,lt:=fun B o e=>?_,below:=h.below,objs:=fun i ob hob=>?_,inj:=fun i j hi hj e=>?_,owns:=fun t n k ht=>?_,ownsEx:=fun t t' B h1 h2=>h.ownsEx t t' B (hsp t B h1) (hsp t' B h2),ownsObj:=fun t B i h1 h2=>?_,glob:=fun i cs2 e=>(h.glob i cs2 e).mono (fun _ _ q=>.inl q) (fun _ _ _=>rfl) (fun _ _=>rfl),exs:=fun t k b xss hx=>?_,exsEx:=fun t t' B h1 h2=>h.exsEx t t' B h1 h2,fix:=fun i B hF=>⟨(h.fix i B hF).1,fun hs=>(by
  obtain ⟨x,hx⟩:=aJ.1 hs;exact (h.fix i B hF).2 (by rw [(hkeep i x hx).2]; rfl))⟩,fixT:=fun t v n hF=>⟨(h.fixT t v n hF).1,fun n0 e=>(h.fixT t v n hF).2 n0 (hcut.T t _ e)⟩ },rfl⟩
 rotate_right
 ·obtain ⟨q1,q2,q3,q4,q5,q6⟩:=h.exs t k b xss hx;refine ⟨by show s.T t=_; rw [<- h.hT]; exact q1,q2,q3,q4,q5,q6.imp id ?_⟩;rintro ⟨B,cap,e,hc0,f1,f2,f3,f4,⟨us,u1,u2⟩,f6,f7,f8⟩;have hne:g.φ l≠B:=f7 l (by rw [hgl]; rfl);exact ⟨B,cap,e,hc0,f1,f2,f3,fun o ho=>ho.elim (f4 o) fun q=>hne q.1.symm,⟨us,u1.mono fun _ _ q=>⟨q.1.mono (fun _ _ e=>.inl e) (fun _ _ _=>rfl) (fun _ _=>rfl),q.2⟩,u2⟩,f6,fun i hi=>by
   obtain ⟨x,hx⟩:=aJ.1 hi;exact f7 i (by rw [(hkeep i x hx).2]; rfl),fun t' ht'=>f8 t' (hsp t' B ht')⟩
 ·simp only [Jwb,aL,aC] at hp;obtain ⟨q,hq,rfl⟩:=hp;have hr:=h.tm i q v hq hv;unfold frz
  by_cases hlv:Fj (Em ls s.H) s.T q=true
  ·rw [if_pos hlv];have h1:Rel g1 q v:=hr.live hcut hlv;exact h1.mono hle
  ·rw [if_neg hlv];split
   ·rename_i l' o;split
    ·rename_i e;subst e;simp only [Rel,Km,Kh];exact href o v hr.1
    ·trivial
   ·rename_i f caps;split
    ·rename_i hc0;simp only [Rel,Km,Kh] at hr ⊢;obtain ⟨arr,e1,e2⟩:=hr;refine ⟨arr,e1,by simp [e2.1],fun j x y hx hy=>?_⟩;rw [aL] at hx;obtain ⟨c,hc,rfl⟩:=aC.1 hx;have h3:=e2.2 j c y hc hy;have h4:Jvx (Kbh l cs' c)=true:=aG.1 hc0 _ (bT.2 ⟨c,aD hc,rfl⟩);cases c
     case ref l' o=>
      simp only [Kbh] at h4 ⊢;split
      ·rename_i e;subst e;exact href o y h3.1
      ·rename_i e;rw [if_neg e] at h4; cases h4
     all_goals
      (simp only [Kbh,Xz] at h3 ⊢
       exact h3.mono (fun _ _ e=>.inl e) (fun _ _ _=>rfl) (fun _ _=>rfl))
    ·trivial
   ·trivial
 ·rcases e with e|⟨rfl,_⟩
  ·exact h.new B o e
  ·exact .inr o1
 ·rcases e with e|⟨rfl,_⟩
  ·exact h.lt B o e
  ·exact o2
 ·obtain ⟨hi,hgi⟩:=hkeep i ob hob;obtain ⟨k1,k2,k3,k4⟩:=h.objs i ob hgi;have hne:g.φ i≠g.φ l:=fun e=>by
   have:=h.inj i l (by rw [hgi]; rfl) (by rw [hgl]; rfl) e;subst this; exact hnl hi
  refine ⟨k1,k2,fun o e=>e.elim (k3 o) (fun q=>hne q.1), ?_⟩;have hlv:=aG.1 hlive i hi;have hsi:s.H i=some ob:=by rw [<- h.hH]; exact hgi
  rw [hsi] at hlv;cases ob with
  | cells cs2=>
   obtain ⟨us,u1,u2,u3⟩:=k4;refine ⟨us,⟨u1.1,fun j x y hx hy=>?_⟩,u2,u3⟩;have h5:=u1.2 j x y hx hy;have h6:Nh (Em ls s.H) s.T x=true:=aG.1 hlv x (aD hx);have h7:Ya g1 x y:=⟨h5.1.live hcut h6,h5.2⟩
   exact h7.mono hle
  | iter b pos=>exact k4
  | miter ks vs left cur=>exact Jki.mono k4 (fun _ _ e=>.inl e) (fun _ _ _=>rfl) (fun _ _=>rfl) fun _ e=>e
  | mapo es k b tk=>cases hlv
  | map es=>
   obtain ⟨arr,clock,u1,u2⟩:=k4;exact ⟨arr,clock,u1,u2.mono fun _ _ q=>⟨q.1.mono (fun _ _ e=>.inl e) (fun _ _ _=>rfl) (fun _ _=>rfl),q.2.1.mono (fun _ _ e=>.inl e) (fun _ _ _=>rfl) (fun _ _=>rfl),q.2.2⟩⟩
 ·obtain ⟨x,hx⟩:=aJ.1 hi;obtain ⟨y,hy⟩:=aJ.1 hj;exact h.inj i j (by rw [(hkeep i x hx).2]; rfl) (by rw [(hkeep j y hy).2]; rfl) e
 ·rcases h.owns t n k (hcut.T t _ ht) with e|⟨B,off,cap,e1,e2,e3⟩
  ·exact .inl e
  ·refine .inr ⟨B,off,cap,e1,e2,fun hlt=>?_⟩;obtain ⟨q1,q2,q3,q4⟩:=e3 hlt;refine ⟨q1,q2,q3,fun hk o ho=>ho.elim (q4 hk o) fun e=>?_⟩;exact absurd e.1.symm (h.ownsObj t B l ⟨n,k,off,cap,hcut.T t _ ht,e1,hlt⟩ (by rw [hgl]; rfl))
 ·obtain ⟨x,hx⟩:=aJ.1 h2;exact h.ownsObj t B i (hsp t B h1) (by rw [(hkeep i x hx).2]; rfl)
theorem Jpy{c:Code}(l:Nat)(ls:List Nat){cs cs':List PV}(hl:s.H l=some (.cells cs))(hd:Gm cs=some cs')(hn:ls.contains l=false)(hlive:(ls.all fun i=>match s.H i with|some ob=>Jdi (Em ls s.H) s.T ob|none=>true)=true)(h:pwp P Gl c Q (Jwb l cs' ls s)):pwp P Gl c Q s:=fun S0 w0 a w hi=>by
 obtain ⟨g,rfl,hg⟩:=hi;obtain ⟨g',h1,h2⟩:=hg.freeze hl hd hn hlive;exact h S0 w0 a _ ⟨g',h2,h1⟩
end
end PM
