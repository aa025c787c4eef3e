import Derived.Below
import Derived.Deep.MidRow
import Derived.Deep.AppendSrc
import Derived.Laws.StructEq
import Derived.Laws.Cover1
/-
 THE PURE MACHINE, A: values without memory (PV), the relation between them and the model's values, states, and what is kept while code runs (Inv). No project text. Nothing here is trusted.
-/
namespace PM
open Go Go.RowKit
abbrev aA:=@Option.bind_some
abbrev aB:=@List.getElem?_eq_getElem
abbrev aC:=@List.mem_of_getElem?
abbrev aD:=@Option.map_eq_some_iff
abbrev aE:=@List.length_cons
abbrev aF:=@List.length_nil
abbrev aG:=@List.getElem?_eq_some_iff
abbrev aH:=@List.length_append
abbrev aI:=@Bool.and_eq_true
abbrev aJ:=@Nat.le_refl
abbrev aK:=@List.all_eq_true
abbrev aL:=@Option.isSome_iff_exists
abbrev aM:=@Prod.mk.injEq
abbrev aN:=@List.getElem?_map
abbrev aO:=@List.eq_nil_of_length_eq_zero
abbrev aP:=@Option.some.injEq
abbrev aQ:=@Bool.false_eq_true
abbrev aR:=@List.take_length
abbrev aS:=@List.getElem?_of_mem
abbrev aT:=@List.length_take
abbrev aU:=@List.getElem?_append
abbrev aV:=@List.length_map
abbrev aW:=@Nat.zero_add
abbrev aX:=@Bool.not_true
abbrev aY:=@List.mem_append
abbrev aZ:=@List.pairwise_append
abbrev bA:=@Classical.not_not
abbrev bB:=@List.take_append_drop
abbrev bC:=@List.append_assoc
abbrev bD:=@List.mem_cons
abbrev bE:=@List.append_nil
abbrev bF:=@Option.bind_eq_some_iff
abbrev bG:=@Nat.le_trans
abbrev bH:=@Option.map_some
abbrev bI:=@Bool.false_ne_true
abbrev bJ:=@Array.length_toList
abbrev bK:=@Bool.cond_true_left
abbrev bL:=@Bool.not_eq_true'
abbrev bM:=@List.getElem?_append_left
abbrev bN:=@List.mem_map
abbrev bO:=@List.cons_append
abbrev bP:=@Bool.or_eq_true
abbrev bQ:=@List.getD_eq_getElem?_getD
abbrev bR:=@Prod.mk.inj
abbrev bS:=@List.getElem?_take
abbrev bT:=@List.map_cons
abbrev bU:=@Nat.succ_mul
abbrev bV:=@Nat.mul_le_mul_right
abbrev bW:=@List.getElem?_append_right
abbrev bX:=@List.flatten_cons
abbrev bY:=@List.getElem?_eq_none
abbrev bZ:=@List.length_filter_le
abbrev cA:=@List.mem_singleton
abbrev cB:=@Array.getElem?_toList
abbrev cC:=@List.length_singleton
abbrev cD:=@Nat.add_sub_cancel_left
abbrev cE:=@List.getElem?_replicate
abbrev cF:=@Array.mapM_eq_mapM_toList
abbrev cG:=@List.length_set
abbrev cH:=@Bool.not_false
abbrev cI:=@List.length_drop
abbrev cJ:=@Nat.lt_of_lt_of_le
abbrev cK:=@List.getElem?_drop
abbrev cL:=@List.map_append
abbrev cM:=@Array.toList_inj
abbrev cN:=@Array.getElem?_append_left
abbrev cO:=@List.getElem?_set
abbrev cP:=@Int.toNat_natCast
abbrev cQ:=@List.getElem?_set_ne
abbrev cR:=@List.pairwise_cons
abbrev cS:=@List.filter_append
abbrev cT:=@Nat.add_mul
abbrev cU:=@Nat.add_zero
abbrev cV:=@Array.toList_append
abbrev cW:=@Array.getD_eq_getD_getElem?
abbrev cX:=@List.nil_append
abbrev cY:=@Option.some.inj
abbrev cZ:=@List.drop_eq_nil_of_le
abbrev dA:=@Bool.eq_iff_iff
abbrev dB:=@List.ext_getElem?
abbrev dC:=@List.pairwise_iff_getElem
abbrev dD:=@List.drop_eq_getElem_cons
abbrev dE:=@Classical.byContradiction
abbrev dF:=@Bool.cond_false_right
abbrev dG:=@List.drop_append_of_le_length
abbrev dH:=@List.any_eq_true
abbrev dI:=@List.getElem?_cons_succ
abbrev dJ:=@List.take_add_one
abbrev dK:=@List.flatten_append
abbrev dL:=@List.mergeSort_perm
abbrev dM:=@List.getElem?_set_self
abbrev dN:=@List.length_pos_of_mem
abbrev dO:=@Nat.zero_le
abbrev dP:=@List.set_append_right
abbrev dQ:=@Nat.add_sub_cancel
abbrev dR:=@ByteArray.size_append
abbrev dS:=@Bool.and_eq_false_iff
abbrev dT:=@Nat.le_of_eq
abbrev dU:=@Array.size_append
abbrev dV:=@List.take_of_length_le
abbrev dW:=@List.find?_cons
abbrev dX:=@Array.getElem?_eq_some_iff
abbrev dY:=@List.flatMap_cons
abbrev dZ:=@Bool.or_eq_false_iff
abbrev eA:=@List.mem_cons_of_mem
abbrev eB:=@List.mem_of_find?_eq_some
abbrev eC:=@List.getLast?_eq_getElem?
abbrev eD:=@List.mem_or_eq_of_mem_set
abbrev eE:=@List.findIdx?_eq_some_iff_getElem
abbrev eF:=@List.drop_drop
abbrev eG:=@Int.add_zero
abbrev eH:=@Option.getD_some
abbrev eI:=@List.mem_flatMap
abbrev eJ:=@Array.toList_map
abbrev eK:=@Bool.cond_eq_ite
abbrev eL:=@List.getElem?_cons_zero
abbrev eM:=@Int.add_assoc
abbrev eN:=@List.cons.injEq
abbrev eO:=@Bool.not_eq_false'
abbrev eP:=@List.take_append_of_le_length
abbrev eQ:=@Nat.exists_eq_succ_of_ne_zero
abbrev eR:=@Array.getElem?_modify
abbrev eS:=@List.length_replicate
abbrev eU:=@List.perm_middle
abbrev eV:=@List.mem_append_left
abbrev eW:=@Array.size_replicate
abbrev eY:=@List.map_take
abbrev eZ:=@Bool.true_and
abbrev fA:=@List.map_congr_left
abbrev fB:=@List.foldl_cons
abbrev fC:=@Bool.or_self
abbrev fD:=@Nat.sub_self
abbrev fE:=@Bool.false_and
theorem oG{p:Prop}(h:p:=by omega):p:=h
theorem sG{p:Prop}(h:p:=by simp):p:=h
inductive Own where
 | frozen|full|own (t:Nat)
 deriving DecidableEq
inductive PV where
 | any
 | int (k:IntKind) (n:Int)
 | bool (b:Bool)
 | str (s:ByteArray)
 | nil
 | agg (cs:List PV)
 | tup (vs:List PV)
 | lst (o:Own) (k b:Nat) (xss:List (List PV))
 | ref (l off:Nat)
 | sl (l o len k b:Nat)
 | cptr (cs:List PV)
 | gptr (g off:Nat)
 | fn (f:FuncId) (caps:List PV)
 | mp (l:Nat)
 | ex (t k b N o n:Nat)
 | eref (t k N j off:Nat)
 | fmp (ks vs:List PV)
 | ub (e:Bool)
 | ifc (x:Option (TypeId×List (IntKind×Int)))
 | ifp (t:TypeId) (cs:List PV)
def PV.one : PV->Bool
 | .any|.agg _|.tup _=>false
 | _=>true
def PV.cells : PV->List PV
 | .agg cs=>cs
 | p=>[p]
inductive Ue where
 | cells (cs:List PV)
 | map (es:List (PV×PV))
 | iter (s:ByteArray) (pos:Nat)
 | miter (ks vs:List PV) (left:List Nat) (cur:Option Nat)
 | mapo (es:List (PV×List (List PV))) (k b:Nat) (tk:Nat->Nat)
abbrev Qa:=Nat->Nat->Prop
def Kg{α β:Type}(R:α->β->Prop)(xs:List α)(ys:List β):Prop :=
 xs.length=ys.length/\∀ (i:Nat) (x:α) (y:β),xs[i]? = some x->ys[i]? = some y->R x y
section all2
variable {α β:Type} {R R':α->β->Prop} {xs xs':List α} {ys ys':List β}
theorem Kg.nil : Kg R [] []:=⟨rfl,fun i x y h=>by simp at h⟩
theorem Kg.mono(h:Kg R xs ys)(hr:∀ x y,R x y->R' x y):Kg R' xs ys:=⟨h.1,fun i x y hx hy=>hr _ _ (h.2 i x y hx hy)⟩
theorem Kg.left(h:Kg R xs ys){i:Nat}{y:β}(hy:ys[i]? = some y):∃ x,xs[i]? = some x/\R x y:=by
 have hi:i<xs.length:=by rw [h.1]; exact (aG.1 hy).1
 exact ⟨xs[i],aB hi,h.2 i _ _ (aB hi) hy⟩
theorem Kg.right(h:Kg R xs ys){i:Nat}{x:α}(hx:xs[i]? = some x):∃ y,ys[i]? = some y/\R x y:=by
 have hi:i<ys.length:=by rw [<- h.1]; exact (aG.1 hx).1
 exact ⟨ys[i],aB hi,h.2 i _ _ hx (aB hi)⟩
theorem Kg.cons{x:α}{y:β}(h:R x y)(ht:Kg R xs ys):Kg R (x::xs) (y::ys) :=
 ⟨by simp [ht.1],fun i a b ha hb=>by
  cases i with
  | zero=>simp at ha hb; subst ha; subst hb; exact h
  | succ i=>exact ht.2 i a b (by simpa using ha) (by simpa using hb)⟩
theorem Kg.head{x:α}{y:β}(h:Kg R (x::xs) (y::ys)):R x y:=h.2 0 x y rfl rfl
theorem Kg.tail{x:α}{y:β}(h:Kg R (x::xs) (y::ys)):Kg R xs ys :=
 ⟨by simpa using h.1,fun i a b ha hb=>h.2 (i+1) a b (by simpa using ha) (by simpa using hb)⟩
theorem Kg.cons_left{x:α}(h:Kg R (x::xs) ys):∃ y ys',ys=y::ys'/\R x y/\Kg R xs ys':=by
 cases ys with
 | nil=>simp [Kg] at h
 | cons y ys'=>exact ⟨y,ys',rfl,h.head,h.tail⟩
theorem Kg.nil_left(h:Kg R [] ys):ys=[]:=aO h.1.symm
theorem Kg.append(h:Kg R xs ys)(h':Kg R xs' ys'):Kg R (xs++xs') (ys++ys'):=by
 refine ⟨by simp [h.1,h'.1],fun i a b ha hb=>?_⟩;rw [aU] at ha hb
 by_cases hi:i<xs.length
 ·rw [if_pos hi] at ha; rw [if_pos (h.1▸hi)] at hb; exact h.2 i a b ha hb
 ·rw [if_neg hi] at ha; rw [if_neg (h.1▸hi),<- h.1] at hb; exact h'.2 _ a b ha hb
theorem Kg.take(h:Kg R xs ys)(n:Nat):Kg R (xs.take n) (ys.take n) :=
 ⟨by simp [h.1],fun i a b ha hb=>by
  rw [bS] at ha hb
  by_cases hi:i<n
  ·rw [if_pos hi] at ha hb; exact h.2 i a b ha hb
  ·rw [if_neg hi] at ha; cases ha⟩
theorem Kg.drop(h:Kg R xs ys)(n:Nat):Kg R (xs.drop n) (ys.drop n) :=
 ⟨by simp [h.1],fun i a b ha hb=>by
  rw [cK] at ha hb;exact h.2 _ a b ha hb⟩
end all2
def Ja3 : PV->Bool
 | .agg cs=>cs.all PV.one
 | .tup _=>false
 | .any=>false
 | _=>true
def Tg(v:Value):Prop:=v=.slice none 0 0\/∃ a,v=.slice (some a) 0 0
theorem Tg.slice{v:Value}(h:Tg v){x:Option Addr}{n cap:Nat}(e:v=.slice x n cap):n=0/\cap=0:=by
 rcases h with q|⟨a,q⟩ <;> (rw [q] at e; cases e; exact ⟨rfl,rfl⟩)
def Gz(arr:Array MapEntry)(clock:Nat):Prop:=(arr.toList.map (·.born)).Nodup/\∀ e∈arr.toList,e.born<clock
theorem Gz.empty : Gz #[] 0:=⟨by simp,by simp⟩
theorem Gz.push{arr:Array MapEntry}{clock:Nat}(h:Gz arr clock)(k v:Value):Gz (arr.push { key:=k,val:=v,born:=clock }) (clock+1):=by
 refine ⟨?_,fun e he=>?_⟩
 ·rw [Array.toList_push,cL,List.nodup_append];refine ⟨h.1,by simp,fun a ha b hb e=>?_⟩;obtain ⟨x,hx,rfl⟩:=bN.1 ha;have:=h.2 x hx;simp only [bT,List.map_nil,cA] at hb;omega
 ·rw [Array.toList_push,aY] at he;rcases he with he|he
  ·have:=h.2 e he; omega
  ·rw [cA.1 he]; exact Nat.lt_succ_self _
theorem Gz.modify{arr:Array MapEntry}{clock:Nat}(h:Gz arr clock)(i:Nat){f:MapEntry->MapEntry}(hf:∀ e,(f e).born=e.born):Gz (arr.modify i f) clock:=by
 have e1:((arr.modify i f).toList.map (·.born))=arr.toList.map (·.born):=by
  apply dB;intro j;rw [aN,aN,cB,cB,eR]
  by_cases hij:i=j
  ·rw [if_pos hij];cases arr[j]? with
   | none=>rfl
   | some x=>simp [hf]
  ·rw [if_neg hij]
 refine ⟨e1▸h.1,fun e he=>?_⟩;have:e.born∈arr.toList.map (·.born):=e1▸List.mem_map_of_mem he;obtain ⟨x,hx,hxe⟩:=bN.1 this;rw [<- hxe]; exact h.2 x hx
theorem Gz.erase{arr:Array MapEntry}{clock:Nat}(h:Gz arr clock)(i:Nat):Gz (arr.eraseIdxIfInBounds i) clock:=by
 have e1:(arr.eraseIdxIfInBounds i).toList=arr.toList.eraseIdx i:=by simp
 refine ⟨?_,fun e he=>h.2 e ((List.eraseIdx_sublist _ _).subset (e1▸he))⟩;rw [e1];exact h.1.sublist ((List.eraseIdx_sublist _ _).map _)
def DR(w w':World):Prop:=w.drawn<=w'.drawn
theorem DR.refl(w:World):DR w w:=by first|exact trivial|exact aJ _
theorem DR.trans{a b c:World}(h:DR a b)(k:DR b c):DR a c:=by first|exact trivial|exact bG h k
theorem DR.of_le{a b:World}(h:a.drawn<=b.drawn):DR a b:=by first|exact trivial|exact h
mutual
def Jv(S:Qa)(w:World):PV->Value->Prop
 | .int k n,v=>v=.int k n
 | .bool b,v=>v=.bool b
 | .str s,v=>v=.string s
 | .nil,v=>v=.slice none 0 0
 | .agg cs,v=>∃ arr:Array Value,v=.agg arr/\Ed S w cs arr.toList
 | .tup vs,v=>∃ arr:Array Value,v=.tuple arr/\Ed S w vs arr.toList
 | .lst o k b xss,v=>xss.length * b<=140737488351232/\xss.length<=140737488351232/\(o=.frozen\/o=.full)/\((Tg v/\xss=[])\/∃ B off cap,v=.slice (some ⟨B,off,none⟩) xss.length cap/\xss.length<=cap/\(o=.full->cap=xss.length)/\Yn S w k xss B off)
 | .cptr cs,v=>∃ B off,v=.pointer (some ⟨B,off,none⟩)/\Uu S w cs B off
 | .gptr g off,v=>v=.pointer (some ⟨g,off,none⟩)
 | .fn f caps,v=>∃ arr:Array Value,v=.func (.func f) #[] arr/\Ed S w caps arr.toList
 | .fmp ks vs,v=>vs.all Ja3=true/\((v=.map none/\ks=[]/\vs=[])\/∃ B arr clock,v=.map (some B)/\(∀ o,S B o)/\(w.heap[B]? = some (.map arr clock)/\Gz arr clock)/\Ed S w ks (arr.toList.map (·.key))/\Ed S w vs (arr.toList.map (·.val)))
 | .ifp t cs,v=>∃ arr:Array Value,v=.iface t (.agg arr)/\Ed S w cs arr.toList
 | _,_=>False
def Ed(S:Qa)(w:World):List PV->List Value->Prop
 | [],vs=>vs=[]
 | c::cs,vs=>∃ v vs',vs=v::vs'/\Jv S w c v/\Ed S w cs vs'
def Uu(S:Qa)(w:World):List PV->Nat->Nat->Prop
 | [],_,_=>True
 | c::cs,B,off=>c.one=true/\S B off/\(∃ v,w.cell? ⟨B,off,none⟩=some v/\Jv S w c v)/\Uu S w cs B (off+1)
def Yn(S:Qa)(w:World)(k:Nat):List (List PV)->Nat->Nat->Prop
 | [],_,_=>True
 | cs::css,B,off=>cs.length=k/\Uu S w cs B off/\Yn S w k css B (off+k)
end
mutual
theorem Jv.mono{S S':Qa}{w w':World}(hS:∀ B o,S B o->S' B o)(hw:∀ B o,S B o->w'.cell? ⟨B,o,none⟩=w.cell? ⟨B,o,none⟩)(hm:∀ B,(∀ o,S B o)->w'.heap[B]? = w.heap[B]?) :
  ∀ (p:PV) (v:Value),Jv S w p v->Jv S' w' p v
 | .int k n,v,h=>by simpa only [Jv] using h
 | .bool b,v,h=>by simpa only [Jv] using h
 | .str s,v,h=>by simpa only [Jv] using h
 | .nil,v,h=>by simpa only [Jv] using h
 | .gptr g off,v,h=>by simpa only [Jv] using h
 | .lst o k b xss,v,h=>by
  simp only [Jv] at h ⊢;obtain ⟨h1,h2,h3,h4⟩:=h;refine ⟨h1,h2,h3, ?_⟩;rcases h4 with h4|⟨B,off,cap,e1,e2,e3,e4⟩
  ·exact .inl h4
  ·exact .inr ⟨B,off,cap,e1,e2,e3,Yn.mono hS hw hm k xss B off e4⟩
 | .cptr cs,v,h=>by
  simp only [Jv] at h ⊢;obtain ⟨B,off,e1,e2⟩:=h;exact ⟨B,off,e1,Uu.mono hS hw hm cs B off e2⟩
 | .fn f caps,v,h=>by
  simp only [Jv] at h ⊢;obtain ⟨arr,e1,e2⟩:=h;exact ⟨arr,e1,Ed.mono hS hw hm caps _ e2⟩
 | .agg cs,v,h=>by
  simp only [Jv] at h ⊢;obtain ⟨arr,e1,e2⟩:=h;exact ⟨arr,e1,Ed.mono hS hw hm cs _ e2⟩
 | .tup cs,v,h=>by
  simp only [Jv] at h ⊢;obtain ⟨arr,e1,e2⟩:=h;exact ⟨arr,e1,Ed.mono hS hw hm cs _ e2⟩
 | .fmp ks vs,v,h=>by
  simp only [Jv] at h ⊢;rcases h with ⟨h0,h|⟨B,arr,clock,e1,e2,e3,e4,e5⟩⟩
  ·exact ⟨h0,.inl h⟩
  ·exact ⟨h0,.inr ⟨B,arr,clock,e1,fun o=>hS _ _ (e2 o),⟨by rw [hm B e2]; exact e3.1,e3.2⟩,Ed.mono hS hw hm ks _ e4,Ed.mono hS hw hm vs _ e5⟩⟩
 | .ifp t cs,v,h=>by
  simp only [Jv] at h ⊢;obtain ⟨arr,e1,e2⟩:=h;exact ⟨arr,e1,Ed.mono hS hw hm cs _ e2⟩
 | .any,v,h=>by simp only [Jv] at h
 | .ref _ _,v,h=>by simp only [Jv] at h
 | .sl _ _ _ _ _,v,h=>by simp only [Jv] at h
 | .mp _,v,h=>by simp only [Jv] at h
 | .ex _ _ _ _ _ _,v,h=>by simp only [Jv] at h
 | .eref _ _ _ _ _,v,h=>by simp only [Jv] at h
 | .ub _,v,h=>by simp only [Jv] at h
 | .ifc _,v,h=>by simp only [Jv] at h
theorem Ed.mono{S S':Qa}{w w':World}(hS:∀ B o,S B o->S' B o)(hw:∀ B o,S B o->w'.cell? ⟨B,o,none⟩=w.cell? ⟨B,o,none⟩)(hm:∀ B,(∀ o,S B o)->w'.heap[B]? = w.heap[B]?) :
  ∀ (cs:List PV) (vs:List Value),Ed S w cs vs->Ed S' w' cs vs
 | [],vs,h=>by simpa only [Ed] using h
 | c::cs,vs,h=>by
  simp only [Ed] at h ⊢;obtain ⟨v,vs',e,h1,h2⟩:=h;exact ⟨v,vs',e,Jv.mono hS hw hm c v h1,Ed.mono hS hw hm cs vs' h2⟩
theorem Uu.mono{S S':Qa}{w w':World}(hS:∀ B o,S B o->S' B o)(hw:∀ B o,S B o->w'.cell? ⟨B,o,none⟩=w.cell? ⟨B,o,none⟩)(hm:∀ B,(∀ o,S B o)->w'.heap[B]? = w.heap[B]?) :
  ∀ (cs:List PV) (B off:Nat),Uu S w cs B off->Uu S' w' cs B off
 | [],B,off,_=>by simp only [Uu]
 | c::cs,B,off,h=>by
  simp only [Uu] at h ⊢;obtain ⟨ho,h0,⟨v,h1,h2⟩,h3⟩:=h;exact ⟨ho,hS _ _ h0,⟨v,by rw [hw _ _ h0]; exact h1,Jv.mono hS hw hm c v h2⟩,Uu.mono hS hw hm cs B (off+1) h3⟩
theorem Yn.mono{S S':Qa}{w w':World}(hS:∀ B o,S B o->S' B o)(hw:∀ B o,S B o->w'.cell? ⟨B,o,none⟩=w.cell? ⟨B,o,none⟩)(hm:∀ B,(∀ o,S B o)->w'.heap[B]? = w.heap[B]?)(k:Nat) :
  ∀ (css:List (List PV)) (B off:Nat),Yn S w k css B off->Yn S' w' k css B off
 | [],B,off,_=>by simp only [Yn]
 | cs::css,B,off,h=>by
  simp only [Yn] at h ⊢;exact ⟨h.1,Uu.mono hS hw hm cs B off h.2.1,Yn.mono hS hw hm k css B (off+k) h.2.2⟩
end
def Gw(S:Qa)(w:World)(cs:List PV)(i:Nat):Prop:=Uu S w cs i 0/\S i cs.length/\w.cell? ⟨i,cs.length,none⟩=none
theorem Gw.mono{S S':Qa}{w w':World}{cs:List PV}{i:Nat}(h:Gw S w cs i)(hS:∀ B o,S B o->S' B o)(hw:∀ B o,S B o->w'.cell? ⟨B,o,none⟩=w.cell? ⟨B,o,none⟩)(hm:∀ B,(∀ o,S B o)->w'.heap[B]? = w.heap[B]?):Gw S' w' cs i :=
 ⟨Uu.mono hS hw hm cs i 0 h.1,hS _ _ h.2.1,by rw [hw _ _ h.2.1]; exact h.2.2⟩
section data
variable {S:Qa} {w:World}
theorem Wj : ∀ (cs:List PV) (vs:List Value),Ed S w cs vs↔Kg (Jv S w) cs vs
 | [],vs=>by
  simp only [Ed];exact ⟨fun h=>by subst h; exact .nil,fun h=>h.nil_left⟩
 | c::cs,vs=>by
  simp only [Ed];constructor
  ·rintro ⟨v,vs',rfl,h1,h2⟩;exact .cons h1 ((Wj cs vs').1 h2)
  ·intro h;obtain ⟨v,vs',rfl,h1,h2⟩:=h.cons_left;exact ⟨v,vs',rfl,h1,(Wj cs vs').2 h2⟩
theorem Yd : ∀ (cs:List PV) (B off:Nat),Uu S w cs B off ↔
  ∀ (i:Nat) (c:PV),cs[i]? = some c->c.one=true/\S B (off+i)/\∃ v,w.cell? ⟨B,off+i,none⟩=some v/\Jv S w c v
 | [],B,off=>by simp [Uu]
 | c::cs,B,off=>by
  simp only [Uu,Yd cs B (off+1)];constructor
  ·rintro ⟨h0,h1,h2,h3⟩ i c' hc;cases i with
   | zero=>simp at hc; subst hc; exact ⟨h0,h1,h2⟩
   | succ i=>
    have:=h3 i c' (by simpa using hc)
    rwa [show off+1+i=off+(i+1) by omega] at this
  ·intro h;have h0:=h 0 c rfl;refine ⟨h0.1,h0.2.1,h0.2.2,fun i c' hc=>?_⟩;have:=h (i+1) c' (by simpa using hc)
   rwa [show off+(i+1)=off+1+i by omega] at this
theorem Jcj(k:Nat):∀ (css:List (List PV)) (B off:Nat),Yn S w k css B off ↔
  ∀ (i:Nat) (cs:List PV),css[i]? = some cs->cs.length=k/\Uu S w cs B (off+i * k)
 | [],B,off=>by simp [Yn]
 | cs::css,B,off=>by
  simp only [Yn,Jcj k css B (off+k)];constructor
  ·rintro ⟨h0,h1,h2⟩ i c' hc;cases i with
   | zero=>simp at hc; subst hc; simpa using ⟨h0,h1⟩
   | succ i=>
    have:=h2 i c' (by simpa using hc)
    rwa [show off+k+i * k=off+(i+1) * k by rw [bU]; omega] at this
  ·intro h;have h0:=h 0 cs rfl;simp only [Nat.zero_mul,cU] at h0;refine ⟨h0.1,h0.2,fun i c' hc=>?_⟩;have:=h (i+1) c' (by simpa using hc)
   rwa [show off+(i+1) * k=off+k+i * k by rw [bU]; omega] at this
theorem Jv.oneCell{p:PV}{v:Value}(h:Jv S w p v)(hp:p.one=true):v.oneCell'=true/\v.cells=#[v]:=by
 cases p <;> simp only [Jv,PV.one] at h hp <;> try cases hp
 case fmp=>obtain ⟨_,⟨rfl,_⟩|⟨_,_,_,rfl,_⟩⟩:=h <;> exact ⟨rfl,rfl⟩
 all_goals first
  | (subst h; exact ⟨rfl,rfl⟩)
  | (obtain ⟨_,_,_,⟨rfl|⟨_,rfl⟩,_⟩|⟨_,_,_,rfl,_⟩⟩:=h <;> exact ⟨rfl,rfl⟩)
  | (obtain ⟨_,_,rfl,_⟩:=h; exact ⟨rfl,rfl⟩)
  | (obtain ⟨_,rfl,_⟩:=h; exact ⟨rfl,rfl⟩)
  | exact h.elim
theorem Yn.cells{k:Nat}{css:List (List PV)}{B off:Nat}(h:Yn S w k css B off):Uu S w css.flatten B off/\css.flatten.length=css.length * k:=by
 induction css generalizing off with
 | nil=>simp [Uu]
 | cons cs css ih=>
  simp only [Yn] at h;obtain ⟨h1,h2,h3⟩:=h;obtain ⟨i1,i2⟩:=ih h3;refine ⟨?_,by simp [h1,i2,bU]; omega⟩;rw [Yd] at h2 i1 ⊢;intro i c hc;rw [bX,aU] at hc
  by_cases hi:i<cs.length
  ·rw [if_pos hi] at hc; exact h2 i c hc
  ·rw [if_neg hi] at hc;have:=i1 _ c hc
   rwa [show off+k+(i - cs.length)=off+i by omega] at this
theorem Uu.values{cs:List PV}{B off:Nat}(h:Uu S w cs B off):∃ vs:List Value,Kg (Jv S w) cs vs/\(∀ j v,vs[j]? = some v->w.cell? ⟨B,off+j,none⟩=some v)/\∀ v∈vs,v.oneCell'=true:=by
 induction cs generalizing off with
 | nil=>exact ⟨[],.nil,by simp,by simp⟩
 | cons c cs ih=>
  simp only [Uu] at h;obtain ⟨h0,h1,⟨v,h2,h3⟩,h4⟩:=h;obtain ⟨vs,i1,i2,i3⟩:=ih h4;refine ⟨v::vs,.cons h3 i1,fun j u hu=>?_,fun u hu=>?_⟩
  ·cases j with
   | zero=>simp at hu; subst hu; exact h2
   | succ j=>
    have:=i2 j u (by simpa using hu)
    rwa [show off+1+j=off+(j+1) by omega] at this
  ·rcases bD.1 hu with rfl|hu
   ·exact (h3.oneCell h0).1
   ·exact i3 u hu
end data
def Jjv(S:Qa)(w:World)(e:PV×PV)(m:MapEntry):Prop:=Jv S w e.1 m.key/\Jv S w e.2 m.val/\Ja3 e.2=true
def HB(hv:Value)(B:Nat):Prop:=∃ off m cap,hv=.slice (some ⟨B,off,none⟩) m cap/\0<cap
structure Bs where
 S:Qa
 F:Nat->Nat->Prop
 FT:Nat->Value->Nat->Prop:=fun _ _ _=>False
 St:List Value:=[]
 D:List Deferred:=[]
def Bs.E(b:Bs)(B:Nat):Prop:=(∃ l,b.F l B)\/∃ t v n,b.FT t v n/\∃ off m cap,v=.slice (some ⟨B,off,none⟩) m cap/\0<cap
structure Pt (B:Nat) (w w':World):Prop extends Below B w w' where
 dr:DR w w'
theorem Pt.refl(B:Nat)(w:World):Pt B w w:=⟨Below.refl B w,DR.refl _⟩
theorem Pt.drew{B:Nat}{w w':World}(h:Pt B w w'):Pt B w w'.drew:=⟨h.toBelow.drew,h.dr.trans (.of_le (Nat.le_succ _))⟩
structure Wr (E:Nat->Prop) (w w':World):Prop where
 os:w'.os=w.os
 tape:w'.tape=w.tape
 output:w'.output=w.output
 size:w.heap.size<=w'.heap.size
 block:∀ k,k<w.heap.size->¬ E k->w'.heap[k]? = w.heap[k]?
 dr:DR w w'
theorem Wr.refl(E:Nat->Prop)(w:World):Wr E w w:=⟨rfl,rfl,rfl,aJ _,fun _ _ _=>rfl,DR.refl _⟩
theorem Wr.trans{E:Nat->Prop}{a b c:World}(h:Wr E a b)(k:Wr E b c):Wr E a c :=
 ⟨k.os.trans h.os,k.tape.trans h.tape,k.output.trans h.output,bG h.size k.size,fun i hi he=>(k.block i (cJ hi h.size) he).trans (h.block i hi he),h.dr.trans k.dr⟩
theorem Wr.ofBelow{E:Nat->Prop}{a b:World}(h:Pt a.heap.size a b):Wr E a b:=⟨h.os,h.tape,h.output,h.size,fun k hk _=>h.block k hk,h.dr⟩
theorem Wr.toBelow{E:Nat->Prop}{a b:World}(h:Wr E a b)(hE:∀ k,¬ E k):Pt a.heap.size a b:=⟨⟨h.os,h.tape,h.output,h.size,fun k hk=>h.block k hk (hE k)⟩,h.dr⟩
structure GG where
 S:Qa
 w:World
 φ:Nat->Nat
 hd:Nat->Value
 H:Nat->Option Ue
 T:Nat->Option (Nat×Nat)
def Jbr(g:GG):PV->Value->Prop
 | .ref l off,v=>v=.pointer (some ⟨g.φ l,off,none⟩)/\(g.H l).isSome=true
 | p,v=>Jv g.S g.w p v
def Jba(hd:Value)(N k o n:Nat)(v:Value):Prop :=
 (v=hd/\N=0/\o=0/\n=0)\/∃ B cap off,hd=.slice (some ⟨B,0,none⟩) N cap/\0<cap/\N<=cap/\o+n<=N/\v=.slice (some ⟨B,off,none⟩) n (cap - o)/\(off=o * k\/cap - o=0)
def Kl5(hd:Value)(N o:Nat)(v:Value):Prop:=∃ B cap,hd=.slice (some ⟨B,0,none⟩) N cap/\v=.pointer (some ⟨B,o,none⟩)
def Ju0 : Option (TypeId×List (IntKind×Int))->Value
 | none=>.nilIface
 | some (t,cs)=>.iface t (.agg (cs.map fun x=>Value.int x.1 x.2).toArray)
def Kk(g:GG):PV->Value->Prop
 | .any,_=>True
 | .lst (.own t) k b xss,v=>Jv g.S g.w (.lst .frozen k b xss) v/\∃ n,g.T t=some (n,k)/\xss.length<=n/\(xss.length=n->v=g.hd t)
 | .ref l off,v=>v=.pointer (some ⟨g.φ l,off,none⟩)/\(g.H l).isSome=true
 | .mp l,v=>v=.map (some (g.φ l))/\(g.H l).isSome=true
 | .sl l o len k _,v=>(∃ off cap,v=.slice (some ⟨g.φ l,off,none⟩) len cap/\len<=cap/\(off=o * k\/len=0))/\∃ cs,g.H l=some (.cells cs)/\(o+len) * k<=cs.length
 | .fn f caps,v=>∃ arr:Array Value,v=.func (.func f) #[] arr/\Kg (Jbr g) caps arr.toList
 | .ex t k _ N o n,v=>(∃ x cap,v=.slice x n cap/\n<=cap/\(0<n->∃ B off,x=some ⟨B,off,none⟩))/\∃ N',g.T t=some (N',0)/\N<=N'/\(N=N'->Jba (g.hd t) N k o n v)
 | .eref t k N j off,v=>(∃ B o,v=.pointer (some ⟨B,o,none⟩))/\∃ N',g.T t=some (N',0)/\N<=N'/\(N=N'->Kl5 (g.hd t) N (j * k+off) v)
 | .ub e,v=>∃ b:Bool,v=.bool b/\(b=true->e=true)
 | .ifc x,v=>v=Ju0 x
 | .agg _,_=>False
 | .tup _,_=>False
 | p,v=>Jv g.S g.w p v
def Yr(g:GG)(p:PV)(v:Value):Prop:=Kk g p v/\v.oneCell'=true
def Ks(g:GG):PV->Value->Prop
 | .agg cs,v=>∃ arr:Array Value,v=.agg arr/\Kg (Yr g) cs arr.toList
 | p,v=>Kk g p v
def Rel(g:GG):PV->Value->Prop
 | .tup vs,v=>∃ arr:Array Value,v=.tuple arr/\Kg (Ks g) vs arr.toList
 | p,v=>Ks g p v
structure GLe (g g':GG):Prop where
 S:∀ B o,g.S B o->g'.S B o
 cell:∀ B o,g.S B o->g'.w.cell? ⟨B,o,none⟩=g.w.cell? ⟨B,o,none⟩
 blk:∀ B,(∀ o,g.S B o)->g'.w.heap[B]? = g.w.heap[B]?
 obj:∀ l ob,g.H l=some ob->g'.φ l=g.φ l/\∃ ob',g'.H l=some ob'/\∀ cs,ob=.cells cs->∃ cs',ob'=.cells cs'/\cs'.length=cs.length
 tok:∀ t n k,g.T t=some (n,k)->∃ n',g'.T t=some (n',k)/\n<=n'/\(n'=n->g'.hd t=g.hd t)
section gle
variable {g g':GG}
theorem GLe.refl(g:GG):GLe g g:=⟨fun _ _ h=>h,fun _ _ _=>rfl,fun _ _=>rfl,fun _ ob h=>⟨rfl,ob,h,fun cs e=>⟨cs,e,rfl⟩⟩,fun _ n _ h=>⟨n,h,aJ _,fun _=>rfl⟩⟩
theorem GLe.live(hg:GLe g g'){l:Nat}(h:(g.H l).isSome=true):g'.φ l=g.φ l/\(g'.H l).isSome=true:=by
 obtain ⟨ob,hob⟩:=aL.1 h;obtain ⟨h1,ob',h2,_⟩:=hg.obj l ob hob;exact ⟨h1,by rw [h2]; rfl⟩
theorem Jbr.mono(hg:GLe g g'):∀ (p:PV) (v:Value),Jbr g p v->Jbr g' p v:=by
 intro p v h;cases p <;> simp only [Jbr] at h ⊢
 case ref l off=>exact ⟨by rw [(hg.live h.2).1]; exact h.1,(hg.live h.2).2⟩
 all_goals exact h.mono hg.S hg.cell hg.blk
theorem Kk.mono(hg:GLe g g'):∀ (p:PV) (v:Value),Kk g p v->Kk g' p v:=by
 intro p v h;cases p
 case lst o k b xss=>
  cases o
  case own t=>
   simp only [Kk] at h ⊢;obtain ⟨h1,n,h2,h3,h4⟩:=h;obtain ⟨n',e1,e2,e3⟩:=hg.tok t n k h2;exact ⟨h1.mono hg.S hg.cell hg.blk,n',e1,by omega,fun e=>by rw [h4 oG,e3 oG]⟩
  all_goals (simp only [Kk] at h ⊢; exact h.mono hg.S hg.cell hg.blk)
 all_goals simp only [Kk] at h ⊢
 case ref l off=>exact ⟨by rw [(hg.live h.2).1]; exact h.1,(hg.live h.2).2⟩
 case mp l=>exact ⟨by rw [(hg.live h.2).1]; exact h.1,(hg.live h.2).2⟩
 case ub=>exact h
 case ifc=>exact h
 case sl l o len k b=>
  obtain ⟨h1,cs,h2,h3⟩:=h;obtain ⟨e1,ob',e2,e3⟩:=hg.obj l _ h2;obtain ⟨cs',rfl,e4⟩:=e3 cs rfl;exact ⟨by rw [e1]; exact h1,cs',e2,by omega⟩
 case fn f caps=>
  obtain ⟨arr,h1,h2⟩:=h;exact ⟨arr,h1,h2.mono (Jbr.mono hg)⟩
 case ex t k b N o n=>
  obtain ⟨h0,N',h2,h3,h4⟩:=h;obtain ⟨N2,e1,e2,e3⟩:=hg.tok t N' 0 h2;exact ⟨h0,N2,e1,by omega,fun e=>by rw [e3 oG]; exact h4 oG⟩
 case eref t k N j off=>
  obtain ⟨h0,N',h2,h3,h4⟩:=h;obtain ⟨N2,e1,e2,e3⟩:=hg.tok t N' 0 h2;exact ⟨h0,N2,e1,by omega,fun e=>by rw [e3 oG]; exact h4 oG⟩
 all_goals exact h.mono hg.S hg.cell hg.blk
theorem Yr.mono(hg:GLe g g')(p:PV)(v:Value)(h:Yr g p v):Yr g' p v:=⟨h.1.mono hg,h.2⟩
theorem Ks.mono(hg:GLe g g'):∀ (p:PV) (v:Value),Ks g p v->Ks g' p v:=by
 intro p v h;cases p
 case agg cs=>
  simp only [Ks] at h ⊢;obtain ⟨arr,h1,h2⟩:=h;exact ⟨arr,h1,h2.mono (Yr.mono hg)⟩
 all_goals (simp only [Ks] at h ⊢; exact h.mono hg)
theorem Rel.mono(hg:GLe g g'):∀ (p:PV) (v:Value),Rel g p v->Rel g' p v:=by
 intro p v h;cases p
 case tup vs=>
  simp only [Rel] at h ⊢;obtain ⟨arr,h1,h2⟩:=h;exact ⟨arr,h1,h2.mono (Ks.mono hg)⟩
 all_goals (simp only [Rel] at h ⊢; exact h.mono hg)
end gle
theorem Kk.of_data{g:GG}{p:PV}{v:Value}(h:Jv g.S g.w p v)(hp:p.one=true):Kk g p v:=by
 cases p
 case lst o k b xss=>
  cases o
  case own t=>simp [Jv] at h
  all_goals exact h
 case fn f caps=>
  simp only [Jv] at h;obtain ⟨arr,h1,h2⟩:=h;refine ⟨arr,h1,((Wj _ _).1 h2).mono fun x y hxy=>?_⟩;cases x <;> simp only [Jbr] <;> first|exact hxy|(simp only [Jv] at hxy)
 case any=>simp [PV.one] at hp
 case agg=>simp [PV.one] at hp
 case tup=>simp [PV.one] at hp
 all_goals first|exact h|(simp only [Jv] at h)
theorem Kk.oneCell{g:GG}{p:PV}{v:Value}(h:Kk g p v)(hp:p.one=true):v.oneCell'=true/\v.cells=#[v]:=by
 cases p
 case lst o k b xss=>
  cases o
  case own t=>exact h.1.oneCell rfl
  all_goals exact Jv.oneCell (S:=g.S) (w:=g.w) h rfl
 case any=>simp [PV.one] at hp
 case agg=>simp [PV.one] at hp
 case tup=>simp [PV.one] at hp
 case ref=>obtain ⟨rfl,_⟩:=h; exact ⟨rfl,rfl⟩
 case mp=>obtain ⟨rfl,_⟩:=h; exact ⟨rfl,rfl⟩
 case ub=>obtain ⟨_,rfl,_⟩:=h; exact ⟨rfl,rfl⟩
 case ifc x=>simp only [Kk] at h; subst h; cases x <;> exact ⟨rfl,rfl⟩
 case sl=>obtain ⟨⟨_,_,rfl,_⟩,_⟩:=h; exact ⟨rfl,rfl⟩
 case fn=>obtain ⟨_,rfl,_⟩:=h; exact ⟨rfl,rfl⟩
 case ex=>obtain ⟨⟨_,_,rfl,_⟩,_⟩:=h; exact ⟨rfl,rfl⟩
 case eref=>obtain ⟨⟨_,_,rfl⟩,_⟩:=h; exact ⟨rfl,rfl⟩
 all_goals exact Jv.oneCell (S:=g.S) (w:=g.w) h rfl
end PM
namespace PM
open Go Go.RowKit
def upd{α:Type}(f:Nat->Option α)(i:Nat)(a:Option α):Nat->Option α:=fun j=>if j=i then a else f j
theorem Kr{α:Type}(f:Nat->Option α)(i:Nat)(a:Option α):upd f i a i=a:=by simp [upd]
theorem Kc{α:Type}(f:Nat->Option α)(i j:Nat)(a:Option α)(h:j≠i):upd f i a j=f j:=by simp [upd,h]
theorem Jpg{α:Type}(f:Nat->Option α)(i j:Nat)(a b:Option α)(h:i≠j):upd (upd f i a) j b=upd (upd f j b) i a:=by
 funext x; simp only [upd]
 by_cases h1:x=j
 ·subst h1; rw [if_pos rfl,if_neg (Ne.symm h),if_pos rfl]
 ·rw [if_neg h1,if_neg h1]
abbrev XT:=Nat->Option (Nat×Nat×List (List PV))
structure PSt where
 tm:List PV
 H:Nat->Option Ue
 T:Nat->Option (Nat×Nat)
 X:Nat->Option (Nat×Nat×List (List PV)):=fun _=>none
 m:Nat:=0
def PSt.get(s:PSt)(i:Nat):PV :=
 match s.m with
 | 0=>s.tm.getD i .any
 | m+1=>match decide (i+(m+1)<s.tm.length) with
  | true=>s.tm.getD i .any
  | false=>.any
def PSt.put(s:PSt)(d:Option Nat)(v:PV):PSt :=
 match d with
 | some i=>match s.m with
  | 0=>{ s with tm:=s.tm.set i v }
  | m+1=>match decide (i+(m+1)<s.tm.length) with
   | true=>{ s with tm:=s.tm.set i v }
   | false=>s
 | none=>s
theorem PSt.get_in(s:PSt){i:Nat}(h:i+s.m<s.tm.length):s.get i=s.tm.getD i .any:=by
 unfold PSt.get;split
 ·rfl
 ·rename_i m e;rw [e] at h;rw [decide_eq_true h]
theorem PSt.get_out(s:PSt){i:Nat}(h:¬ i+s.m<s.tm.length):s.get i=.any:=by
 unfold PSt.get;split
 ·rename_i e;rw [e] at h;rw [bQ,bY oG]; rfl
 ·rename_i m e;rw [e] at h;rw [decide_eq_false h]
theorem PSt.put_in(s:PSt){i:Nat}(v:PV)(h:i+s.m<s.tm.length):s.put (some i) v={ s with tm:=s.tm.set i v }:=by
 unfold PSt.put;simp only;split
 ·rfl
 ·rename_i m e;rw [e] at h;rw [decide_eq_true h]
theorem PSt.put_out(s:PSt){i:Nat}(v:PV)(h:¬ i+s.m<s.tm.length):s.put (some i) v=s:=by
 unfold PSt.put;simp only;split
 ·rename_i e;rw [e] at h;rw [List.set_eq_of_length_le oG]
 ·rename_i m e;rw [e] at h;rw [decide_eq_false h]
theorem PSt.put_m(s:PSt)(d:Option Nat)(v:PV):(s.put d v).m=s.m:=by
 cases d with
 | none=>rfl
 | some i=>
  by_cases h:i+s.m<s.tm.length
  ·rw [s.put_in v h]
  ·rw [s.put_out v h]
theorem PSt.put_len(s:PSt)(d:Option Nat)(v:PV):(s.put d v).tm.length=s.tm.length:=by
 cases d with
 | none=>rfl
 | some i=>
  by_cases h:i+s.m<s.tm.length
  ·rw [s.put_in v h]; simp
  ·rw [s.put_out v h]
theorem PSt.put_H(s:PSt)(d:Option Nat)(v:PV):(s.put d v).H=s.H/\(s.put d v).T=s.T/\(s.put d v).X=s.X:=by
 cases d with
 | none=>exact ⟨rfl,rfl,rfl⟩
 | some i=>
  by_cases h:i+s.m<s.tm.length
  ·rw [s.put_in v h]; exact ⟨rfl,rfl,rfl⟩
  ·rw [s.put_out v h]; exact ⟨rfl,rfl,rfl⟩
def Jmr(S:Qa)(w:World)(B:Nat)(ks vs:List PV)(left:List Nat)(cur:Option Nat):Prop :=
 (w.heap[B]? = some (.mapIter none 0 #[] 0)/\left=[]/\cur=none)\/∃ bm arr clock seen,w.heap[B]? = some (.mapIter (some bm) clock seen clock)/\(∀ o,S bm o)/\(w.heap[bm]? = some (.map arr clock)/\Gz arr clock) /\
  Ed S w ks (arr.toList.map (·.key))/\Ed S w vs (arr.toList.map (·.val))/\(∀ (i:Nat) (e:MapEntry),arr[i]? = some e->(i∈left↔seen.contains e.born=false))/\(∀ i∈left,i<arr.size)/\left.Nodup /\
  ∀ i,cur=some i->∃ (e:MapEntry) (seen':Array Nat),arr[i]? = some e/\seen=seen'.push e.born
theorem Jmr.mono{S S':Qa}{w w':World}{B:Nat}{ks vs:List PV}{left:List Nat}{cur:Option Nat}(h:Jmr S w B ks vs left cur)(hS:∀ B o,S B o->S' B o)(hw:∀ B o,S B o->w'.cell? ⟨B,o,none⟩=w.cell? ⟨B,o,none⟩)(hm:∀ B,(∀ o,S B o)->w'.heap[B]? = w.heap[B]?)(hB:∀ x:Obj,w.heap[B]? = some x->w'.heap[B]? = some x):Jmr S' w' B ks vs left cur:=by
 rcases h with ⟨h1,h2⟩|⟨bm,arr,clock,seen,h1,h2,h3,h4,h5,h6⟩
 ·exact .inl ⟨hB _ h1,h2⟩
 ·exact .inr ⟨bm,arr,clock,seen,hB _ h1,fun o=>hS _ _ (h2 o),⟨by rw [hm bm h2]; exact h3.1,h3.2⟩,Ed.mono hS hw hm _ _ h4,Ed.mono hS hw hm _ _ h5,h6⟩
def Jc7(g:GG)(B:Nat):Ue->Prop
 | .cells cs=>∃ vs:List Value,Kg (Yr g) cs vs/\g.w.rangeAt B 0 vs/\g.w.there B 0 vs.length
 | .map es=>∃ arr clock,(g.w.heap[B]? = some (.map arr clock)/\Gz arr clock)/\Kg (Jjv g.S g.w) es arr.toList
 | .iter b pos=>g.w.heap[B]? = some (.stringIter b pos)
 | .miter ks vs left cur=>Jmr g.S g.w B ks vs left cur
 | .mapo es k b tk=>k≠0/\∃ arr clock,(g.w.heap[B]? = some (.map arr clock)/\Gz arr clock)/\arr.size=es.length/\∀ (i:Nat) (e:PV×List (List PV)) (m:MapEntry),es[i]? = some e->arr[i]? = some m->Jv g.S g.w e.1 m.key/\Kk g (.lst (.own (tk i)) k b e.2) m.val
def Jum(n k cap:Nat):Prop:=n<cap\/(k=0/\0<cap)
theorem Jum.pos{n k cap:Nat}(h:Jum n k cap):0<cap:=by rcases h with h|⟨_,h⟩ <;> omega
theorem Jum.of_lt{n k cap:Nat}(h:n<cap):Jum n k cap:=.inl h
def Wi(g:GG)(t B:Nat):Prop:=∃ n k off cap,g.T t=some (n,k)/\g.hd t=.slice (some ⟨B,off,none⟩) n cap/\Jum n k cap
def Jka(g:GG)(base t n k:Nat):Prop :=
 (Tg (g.hd t)/\n=0)\/∃ B off cap,g.hd t=.slice (some ⟨B,off,none⟩) n cap/\n<=cap /\
  (Jum n k cap->(k≠0->base<=B)/\B<g.w.heap.size/\g.w.there B off (cap * k)/\(k≠0->∀ o,g.S B o->o<off+n * k))
def ExB(g:GG)(E:Nat->Prop)(base t k:Nat)(xss:List (List PV))(B cap:Nat):Prop :=
 xss.length<=cap/\(base<=B\/E B)/\B<g.w.heap.size/\(∀ o,¬ g.S B o)/\(∃ vs,Kg (fun p v=>Jv g.S g.w p v/\p.one=true) xss.flatten vs/\g.w.rangeAt B 0 vs)/\g.w.there B 0 (cap * k) /\
  (∀ l,(g.H l).isSome=true->g.φ l≠B)/\∀ t',Wi g t' B->t'=t
def Jy6(g:GG)(E:Nat->Prop)(base t k b:Nat)(xss:List (List PV)):Prop :=
 g.T t=some (xss.length,0)/\k≠0/\(∀ cs∈xss,cs.length=k)/\xss.length * b<=140737488351232/\xss.length<=140737488351232 /\
  ((Tg (g.hd t)/\xss=[])\/∃ B cap,g.hd t=.slice (some ⟨B,0,none⟩) xss.length cap/\0<cap/\ExB g E base t k xss B cap)
def XB(X:Nat->Option (Nat×Nat×List (List PV)))(g:GG)(t B:Nat):Prop:=(X t).isSome=true/\∃ off n cap,g.hd t=.slice (some ⟨B,off,none⟩) n cap/\0<cap
abbrev GL:=Nat->Option (List PV)
structure Kh (Gl:GL) (S0:Bs) (w0:World) (s:PSt) (a:Act) (g:GG):Prop where
 hH:g.H=s.H
 hT:g.T=s.T
 defers:a.defers=S0.D
 len:s.tm.length=a.tmps.size+s.m/\S0.St.length=s.m
 tm:∀ (i:Nat) (p:PV) (v:Value),s.tm[i]? = some p->(a.tmps.toList++S0.St)[i]? = some v->Rel g p v
 sub:∀ B o,S0.S B o->g.S B o
 new:∀ B o,g.S B o->S0.S B o\/w0.heap.size<=B\/S0.E B
 lt:∀ B o,g.S B o->B<g.w.heap.size
 below:Wr S0.E w0 g.w
 objs:∀ l ob,g.H l=some ob->(w0.heap.size<=g.φ l\/S0.E (g.φ l))/\g.φ l<g.w.heap.size/\(∀ o,¬ g.S (g.φ l) o)/\Jc7 g (g.φ l) ob
 inj:∀ l l',(g.H l).isSome=true->(g.H l').isSome=true->g.φ l=g.φ l'->l=l'
 owns:∀ t n k,g.T t=some (n,k)->Jka g w0.heap.size t n k
 ownsEx:∀ t t' B,Wi g t B->Wi g t' B->t=t'
 ownsObj:∀ t B l,Wi g t B->(g.H l).isSome=true->g.φ l≠B
 glob:∀ i cs,Gl i=some cs->Gw g.S g.w cs i
 exs:∀ t k b xss,s.X t=some (k,b,xss)->Jy6 g S0.E w0.heap.size t k b xss
 exsEx:∀ t t' B,XB s.X g t B->XB s.X g t' B->t=t'
 fix:∀ l B,S0.F l B->1000000<=l/\((g.H l).isSome=true->g.φ l=B)
 fixT:∀ t v n,S0.FT t v n->1000000000<=t/\∀ n0,g.T t=some (n0,0)->n<=n0/\(n0=n->g.hd t=v)/\∀ B,HB (g.hd t) B->HB v B\/w0.heap.size<=B
def Inv(Gl:GL)(S0:Bs)(w0:World)(s:PSt)(a:Act)(w:World):Prop:=∃ g,g.w=w/\Kh Gl S0 w0 s a g
section
variable {Gl:GL} {S0:Bs} {w0:World} {s:PSt} {a:Act} {g:GG}
theorem Wi.lt(h:Kh Gl S0 w0 s a g){t B:Nat}(hs:Wi g t B):B<g.w.heap.size:=by
 obtain ⟨n,k,off,cap,h1,h2,h3⟩:=hs;rcases h.owns t n k h1 with ⟨e,_⟩|⟨B',off',cap',e,_,hr⟩
 ·have:=(e.slice h2).2; have:=h3.pos; omega
 ·rw [e] at h2; cases h2; exact (hr h3).2.1
theorem Jy6.lt{E:Nat->Prop}{base t k b:Nat}{xss:List (List PV)}(h:Jy6 g E base t k b xss){B off n cap:Nat}(hh:g.hd t=.slice (some ⟨B,off,none⟩) n cap)(hc:0<cap):B<g.w.heap.size/\(base<=B\/E B)/\(∀ o,¬ g.S B o)/\(∀ l,(g.H l).isSome=true->g.φ l≠B)/\(∀ t',Wi g t' B->t'=t):=by
 obtain ⟨_,_,_,_,_,⟨e|⟨_,e⟩,_⟩|⟨B',cap',e,hc',h1,h2,h3,h4,h5,h6,h7,h8⟩⟩:=h
 ·rw [e] at hh; cases hh
 ·rw [e] at hh; cases hh; omega
 ·rw [e] at hh; cases hh; exact ⟨h3,h2,h4,h7,h8⟩
theorem Kh.noX(h:Kh Gl S0 w0 s a g){t:Nat}(hT:∀ n,g.T t≠some (n,0)):s.X t=none:=by
 cases hx:s.X t with
 | none=>rfl
 | some x=>
  obtain ⟨k,b,xss⟩:=x;exact absurd (h.exs t k b xss hx).1 (hT _)
theorem XB.lt(h:Kh Gl S0 w0 s a g){t B:Nat}(hs:XB s.X g t B):B<g.w.heap.size/\(w0.heap.size<=B\/S0.E B)/\(∀ o,¬ g.S B o)/\(∀ l,(g.H l).isSome=true->g.φ l≠B)/\(∀ t',Wi g t' B->t'=t):=by
 obtain ⟨h1,off,n,cap,h2,h3⟩:=hs;obtain ⟨⟨k,b,xss⟩,hx⟩:=aL.1 h1;exact (h.exs t k b xss hx).lt h2 h3
theorem Jy6.mono{g g':GG}{E:Nat->Prop}{base t k b:Nat}{xss:List (List PV)}(h:Jy6 g E base t k b xss)(hle:GLe g g')(hT:g'.T t=g.T t)(hhd:g'.hd t=g.hd t)(hsz:g.w.heap.size<=g'.w.heap.size)(hk:∀ B off n cap,g.hd t=.slice (some ⟨B,off,none⟩) n cap/\0<cap->(base<=B\/E B)->B<g.w.heap.size->(∀ o,¬ g.S B o)->(∀ l,(g.H l).isSome=true->g.φ l≠B)->(∀ t',Wi g t' B->t'=t) ->
   (∀ o,g'.w.cell? ⟨B,o,none⟩=g.w.cell? ⟨B,o,none⟩)/\(∀ o,g'.w.frozen? ⟨B,o,none⟩=g.w.frozen? ⟨B,o,none⟩)/\(∀ o,¬ g'.S B o)/\(∀ l,(g'.H l).isSome=true->g'.φ l≠B)/\(∀ t',Wi g' t' B->t'=t)):Jy6 g' E base t k b xss:=by
 obtain ⟨q1,q2,q3,q4,q5,q6⟩:=h;refine ⟨by rw [hT]; exact q1,q2,q3,q4,q5, ?_⟩;rcases q6 with ⟨e1,e2⟩|⟨B,cap,e,hc,h1,h2,h3,h4,⟨vs,v1,v2⟩,h6,h7,h8⟩
 ·exact .inl ⟨by rw [hhd]; exact e1,e2⟩
 ·obtain ⟨r1,r2,r3,r4,r5⟩:=hk B 0 _ cap ⟨e,hc⟩ h2 h3 h4 h7 h8;exact .inr ⟨B,cap,by rw [hhd]; exact e,hc,h1,h2,by omega,r3,⟨vs,v1.mono fun _ _ hxy=>⟨hxy.1.mono hle.S hle.cell hle.blk,hxy.2⟩,fun j v hv=>by rw [r1]; exact v2 j v hv⟩,fun j hj=>by rw [r1,r2]; exact h6 j hj,r4,r5⟩
theorem XB.congr{X:Nat->Option (Nat×Nat×List (List PV))}{g g':GG}(hhd:g'.hd=g.hd){t B:Nat}(h:XB X g' t B):XB X g t B:=by
 obtain ⟨h1,off,n,cap,h2⟩:=h;exact ⟨h1,off,n,cap,by rw [<- hhd]; exact h2⟩
theorem Act.put_size(a:Act)(d:Option Nat)(v:Value):(a.put d v).tmps.size=a.tmps.size:=by cases d <;> simp [Act.put]
theorem Kh.put(h:Kh Gl S0 w0 s a g)(d:Option Nat){p:PV}{v:Value}(hv:Rel g p v):Kh Gl S0 w0 (s.put d p) (a.put d v) g:=by
 cases d with
 | none=>exact h
 | some i=>
  obtain ⟨e1,e2,e3⟩:=s.put_H (some i) p;refine { h with hH:=by rw [e1]; exact h.hH,hT:=by rw [e2]; exact h.hT,exs:=by rw [e3]; exact h.exs,exsEx:=by rw [e3]; exact h.exsEx,defers:=h.defers,len:=⟨by rw [s.put_len,s.put_m,Act.put_size]; exact h.len.1,by rw [s.put_m]; exact h.len.2⟩,tm:=fun j q u hq hu=>?_ };have hl:=h.len.1
  by_cases hi:i+s.m<s.tm.length
  ·rw [s.put_in p hi] at hq;have hi2:i<a.tmps.size:=by omega
   have hpt:(a.put (some i) v).tmps.toList++S0.St=(a.tmps.toList++S0.St).set i v:=by
    simp only [Act.put,Array.setIfInBounds,dif_pos hi2,Array.toList_set];rw [List.set_append_left _ _ (by simpa using hi2)]
   rw [hpt] at hu;simp only [cO] at hq hu
   by_cases hij:i=j
   ·subst hij;rw [if_pos rfl] at hq hu;split at hq
    ·split at hu
     ·cases hq; cases hu; exact hv
     ·cases hu
    ·cases hq
   ·rw [if_neg hij] at hq hu;exact h.tm j q u hq hu
  ·rw [s.put_out p hi] at hq;have hi2:¬ i<a.tmps.size:=by omega
   have hpt:(a.put (some i) v).tmps=a.tmps:=by simp only [Act.put,Array.setIfInBounds,dif_neg hi2]
   rw [hpt] at hu;exact h.tm j q u hq hu
theorem Rel.any(g:GG)(v:Value):Rel g .any v:=trivial
theorem Kh.get(h:Kh Gl S0 w0 s a g)(i:Nat):Rel g (s.get i) (a.tmps.getD i undef):=by
 have hl:=h.len.1
 by_cases hi:i+s.m<s.tm.length
 ·rw [s.get_in hi];have hi':i<a.tmps.size:=by omega
  have hi2:i<s.tm.length:=by omega
  have:=h.tm i s.tm[i] a.tmps[i] (aB hi2) (by rw [bM (by simpa using hi')]; simp [hi'])
  simpa [List.getD,aB hi2,Array.getElem?_eq_getElem hi'] using this
 ·rw [s.get_out hi];exact trivial
def Kgq(a:Act)(S0:Bs)(i:Nat):Value:=(a.tmps.toList++S0.St).getD i undef
theorem Kh.rget(h:Kh Gl S0 w0 s a g)(i:Nat):Rel g (s.tm.getD i .any) (Kgq a S0 i):=by
 have hl:=h.len
 by_cases hi:i<s.tm.length
 ·have hi2:i<(a.tmps.toList++S0.St).length:=by rw [aH,bJ]; omega
  have:=h.tm i s.tm[i] _ (aB hi) (aB hi2);rw [bQ,aB hi,Kgq,bQ,aB hi2];exact this
 ·rw [bQ,bY oG]; exact trivial
theorem Kh.rput(h:Kh Gl S0 w0 s a g)(i:Nat){p:PV}(hv:Rel g p (Kgq a S0 i)):Kh Gl S0 w0 { s with tm:=s.tm.set i p } a g:=by
 refine { h with hH:=h.hH,hT:=h.hT,len:=⟨by simpa using h.len.1,h.len.2⟩,tm:=fun j q u hq hu=>?_ };simp only [cO] at hq
 by_cases hij:i=j
 ·subst hij;rw [if_pos rfl] at hq;split at hq
  ·cases hq
   rwa [Kgq,bQ,hu] at hv
  ·cases hq
 ·rw [if_neg hij] at hq; exact h.tm j q u hq hu
theorem Wi.congr{g g':GG}(hT:g'.T=g.T)(hhd:g'.hd=g.hd){t B:Nat}(h:Wi g' t B):Wi g t B:=by
 obtain ⟨n,k,off,cap,h1,h2,h3⟩:=h;exact ⟨n,k,off,cap,by rw [<- hT]; exact h1,by rw [<- hhd]; exact h2,h3⟩
theorem cell?_below{B:Nat}{w w':World}(hb:Below B w w'){b o:Nat}(h:b<B):w'.cell? ⟨b,o,none⟩=w.cell? ⟨b,o,none⟩:=hb.cell (p:=⟨b,o,none⟩) h
theorem frozen?_below{B:Nat}{w w':World}(hb:Below B w w'){b o:Nat}(h:b<B):w'.frozen? ⟨b,o,none⟩=w.frozen? ⟨b,o,none⟩:=hb.frozen (p:=⟨b,o,none⟩) h
theorem Jxy{B:Nat}{w w':World}(hb:Below B w w'){b o n:Nat}(h:b<B)(hr:w.there b o n):w'.there b o n :=
 fun j hj=>by rw [cell?_below hb h,frozen?_below hb h]; exact hr j hj
theorem Jc7.mono{g g':GG}(hg:GLe g g'){B:Nat}(hb:∀ o,g'.w.cell? ⟨B,o,none⟩=g.w.cell? ⟨B,o,none⟩)(hf:∀ o,g'.w.frozen? ⟨B,o,none⟩=g.w.frozen? ⟨B,o,none⟩)(hh:∀ (x:Obj) (_:Unit),g.w.heap[B]? = some x->g'.w.heap[B]? = some x):∀ {ob:Ue},Jc7 g B ob->Jc7 g' B ob
 | .cells cs,⟨vs,h1,h2,h3⟩=>⟨vs,h1.mono (Yr.mono hg),fun j v hv=>by rw [hb]; exact h2 j v hv,fun j hj=>by rw [hb,hf]; exact h3 j hj⟩
 | .iter _ _,h=>hh _ () h
 | .miter _ _ _ _,h=>Jmr.mono h hg.S hg.cell hg.blk fun x hx=>hh x () hx
 | .mapo es k b tk,⟨h0,arr,clock,h1,h2,h3⟩=>⟨h0,arr,clock,⟨hh _ () h1.1,h1.2⟩,h2,fun i e m he hm=>⟨(h3 i e m he hm).1.mono hg.S hg.cell hg.blk,(h3 i e m he hm).2.mono hg⟩⟩
 | .map es,⟨arr,clock,h1,h2⟩=>⟨arr,clock,⟨hh _ () h1.1,h1.2⟩,h2.mono fun _ _ hxy=>⟨hxy.1.mono hg.S hg.cell hg.blk,hxy.2.1.mono hg.S hg.cell hg.blk,hxy.2.2⟩⟩
theorem Kh.grow(h:Kh Gl S0 w0 s a g){w':World}{S':Qa}(hb:Pt g.w.heap.size g.w w')(hS:∀ B o,g.S B o->S' B o)(hS':∀ B o,S' B o->g.S B o\/(g.w.heap.size<=B/\B<w'.heap.size)):Kh Gl S0 w0 s a { g with w:=w',S:=S' }/\GLe g { g with w:=w',S:=S' }:=by
 have hle:GLe g { g with w:=w',S:=S' } :=
  ⟨hS,fun B o hBo=>cell?_below hb.toBelow (h.lt B o hBo),fun B hB=>hb.block _ (h.lt B 0 (hB 0)),fun l ob hob=>⟨rfl,ob,hob,fun cs e=>⟨cs,e,rfl⟩⟩,fun t n k ht=>⟨n,ht,aJ _,fun _=>rfl⟩⟩
 have hz:=h.below.size;refine ⟨{ hH:=h.hH,hT:=h.hT,defers:=h.defers,len:=h.len,tm:=fun i p v hp hv=>(h.tm i p v hp hv).mono hle,sub:=fun B o hBo=>hS _ _ (h.sub B o hBo),new:=fun B o hBo=>?_,lt:=fun B o hBo=>?_,below:=h.below.trans (.ofBelow hb),objs:=fun l ob hob=>?_,inj:=h.inj,owns:=fun t n k ht=>?_,ownsEx:=fun t t' B hs hs'=>h.ownsEx t t' B (hs.congr rfl rfl) (hs'.congr rfl rfl),ownsObj:=fun t B l hs hl=>h.ownsObj t B l (hs.congr rfl rfl) hl,glob:=fun i cs hi=>(h.glob i cs hi).mono hle.S hle.cell hle.blk,exs:=fun t k b xss hx=>(h.exs t k b xss hx).mono hle rfl rfl hb.size fun B off n cap e1 e2 e3 e4 e5 e6=>⟨fun o=>cell?_below hb.toBelow e3,fun o=>frozen?_below hb.toBelow e3,fun o ho=>(hS' _ _ ho).elim (e4 o) fun q=>by omega,e5,fun t' hs=>e6 t' (hs.congr rfl rfl)⟩,exsEx:=fun t t' B h1 h2=>h.exsEx t t' B (h1.congr rfl) (h2.congr rfl),fix:=h.fix,fixT:=h.fixT },hle⟩
 ·rcases hS' B o hBo with h1|h1
  ·exact h.new B o h1
  ·exact .inr (.inl oG)
 ·rcases hS' B o hBo with h1|h1
  ·have:=h.lt B o h1; have:=hb.size; show B<w'.heap.size; omega
  ·exact h1.2
 ·obtain ⟨h1,h2,h3,h4⟩:=h.objs l ob hob;have hsz:=hb.size;refine ⟨h1,by show g.φ l<w'.heap.size; omega,fun o ho=>?_,h4.mono hle (fun o=>cell?_below hb.toBelow h2) (fun o=>frozen?_below hb.toBelow h2) (fun arr c hc=>by rw [hb.block _ h2]; exact hc)⟩;rcases hS' _ _ ho with h5|h5
  ·exact h3 o h5
  ·have:g.w.heap.size<=g.φ l:=h5.1; omega
 ·rcases h.owns t n k ht with hn|⟨B,off,cap,e1,e2,e3⟩
  ·exact .inl hn
  ·have hsz:=hb.size;refine .inr ⟨B,off,cap,e1,e2,fun hlt=>?_⟩;obtain ⟨f1,f2,f3,f4⟩:=e3 hlt;refine ⟨f1,by show B<w'.heap.size; omega,Jxy hb.toBelow f2 f3,fun hk o ho=>?_⟩;rcases hS' _ _ ho with h5|h5
   ·exact f4 hk o h5
   ·omega
theorem Kh.grow'(h:Kh Gl S0 w0 s a g){w':World}(hb:Pt g.w.heap.size g.w w'):Kh Gl S0 w0 s a { g with w:=w' }/\GLe g { g with w:=w' } :=
 h.grow (S':=g.S) hb (fun _ _ h=>h) (fun _ _ h=>.inl h)
theorem Kh.addObj(h:Kh Gl S0 w0 s a g){l B:Nat}{ob:Ue}(hl:g.H l=none)(hl6:l<1000000)(hB:w0.heap.size<=B\/S0.E B)(hB':B<g.w.heap.size)(hS:∀ o,¬ g.S B o)(hφ:∀ l',(g.H l').isSome=true->g.φ l'≠B)(hsp:∀ t,¬ Wi g t B)(hx:∀ t,¬ XB s.X g t B)(hob:∀ g',GLe g g'->g'.w=g.w->Jc7 g' B ob) :
  Kh Gl S0 w0 { s with H:=upd s.H l (some ob) } a { g with φ:=fun x=>if x=l then B else g.φ x,H:=upd g.H l (some ob) }/\GLe g { g with φ:=fun x=>if x=l then B else g.φ x,H:=upd g.H l (some ob) }:=by
 have hne:∀ l' ob',g.H l'=some ob'->l'≠l:=fun l' ob' h1 h2=>by rw [h2,hl] at h1; cases h1
 have hle:GLe g { g with φ:=fun x=>if x=l then B else g.φ x,H:=upd g.H l (some ob) } :=
  ⟨fun _ _ h=>h,fun _ _ _=>rfl,fun _ _=>rfl,fun l' ob' h1=>⟨if_neg (hne l' ob' h1),ob',by show upd g.H l (some ob) l'=_; rw [Kc _ _ _ _ (hne l' ob' h1)]; exact h1,fun cs e=>⟨cs,e,rfl⟩⟩,fun t n k ht=>⟨n,ht,aJ _,fun _=>rfl⟩⟩
 have hsome:∀ l',((upd g.H l (some ob)) l').isSome=true->l'≠l->(g.H l').isSome=true:=fun l' h1 h2=>by rwa [Kc _ _ _ _ h2] at h1
 refine ⟨{ hH:=by rw [<- h.hH],hT:=h.hT,defers:=h.defers,len:=h.len,tm:=fun i p v hp hv=>(h.tm i p v hp hv).mono hle,sub:=h.sub,new:=h.new,lt:=h.lt,below:=h.below,objs:=fun l' ob' hob'=>?_,inj:=fun l1 l2 h1 h2 he=>?_,owns:=fun t n k ht=>h.owns t n k ht,ownsEx:=fun t t' B hs hs'=>h.ownsEx t t' B (hs.congr rfl rfl) (hs'.congr rfl rfl),ownsObj:=fun t B' l' hs hl'=>?_,glob:=h.glob,exs:=fun t k b xss hX=>(h.exs t k b xss hX).mono hle rfl rfl (aJ _) fun B' off n cap e1 e2 e3 e4 e5 e6=>⟨fun _=>rfl,fun _=>rfl,e4,fun l' hl'=>?_,fun t' hs=>e6 t' (hs.congr rfl rfl)⟩,exsEx:=fun t t' B h1 h2=>h.exsEx t t' B (h1.congr rfl) (h2.congr rfl),fix:=fun l' B' hF=>⟨(h.fix l' B' hF).1,fun hs=>(by
  have h6:=(h.fix l' B' hF).1;have hne:l'≠l:=by omega
  simp only [if_neg hne];exact (h.fix l' B' hF).2 (hsome l' hs hne))⟩,fixT:=h.fixT },hle⟩
 rotate_right
 ·by_cases e:l'=l
  ·simp only [e,if_true];intro hBB;exact hx t ⟨by rw [hX]; rfl,off,n,cap,by rw [hBB]; exact e1⟩
  ·simp only [if_neg e];exact e5 l' (hsome l' hl' e)
 ·by_cases e:l'=l
  ·subst e;have h1:upd g.H l' (some ob) l'=some ob':=hob';rw [Kr] at h1;cases h1;simp only [if_true];exact ⟨hB,hB',hS,hob _ hle rfl⟩
  ·have h1:upd g.H l (some ob) l'=some ob':=hob';rw [Kc _ _ _ _ e] at h1;obtain ⟨k1,k2,k3,k4⟩:=h.objs l' ob' h1;simp only [if_neg e];exact ⟨k1,k2,k3,k4.mono hle (fun _=>rfl) (fun _=>rfl) (fun _ _ h=>h)⟩
 ·by_cases e1:l1=l <;> by_cases e2:l2=l
  ·rw [e1,e2]
  ·simp only [e1,if_true,if_neg e2] at he;exact absurd he.symm (hφ l2 (hsome l2 h2 e2))
  ·simp only [e2,if_true,if_neg e1] at he;exact absurd he (hφ l1 (hsome l1 h1 e1))
  ·simp only [if_neg e1,if_neg e2] at he;exact h.inj l1 l2 (hsome l1 h1 e1) (hsome l2 h2 e2) he
 ·by_cases e:l'=l
  ·simp only [e,if_true];intro hBB;exact hsp t (by rw [hBB]; exact hs.congr rfl rfl)
  ·simp only [if_neg e];exact h.ownsObj t B' l' (hs.congr rfl rfl) (hsome l' hl' e)
end
end PM
namespace PM
open Go Go.RowKit
theorem Ja0(b:Nat):∀ (vs:List Value) (o:Nat) (w:World) (k:Nat),k≠b->(w.setCells b o vs).heap[k]? = w.heap[k]?
 | [],_,_,_,_=>rfl
 | v::r,o,w,k,h=>by
  rw [World.setCells,Ja0 b r (o+1) _ k h];exact Below.heap_setCell w ⟨b,o,none⟩ v k h
theorem Jh7(b:Nat):∀ (vs:List Value) (o:Nat) (w:World),(w.setCells b o vs).heap.size=w.heap.size
 | [],_,_=>rfl
 | v::r,o,w=>by rw [World.setCells,Jh7 b r (o+1)]; simp
theorem Nf(b:Nat):∀ (vs:List Value) (o:Nat) (w:World),(w.setCells b o vs).os=w.os/\(w.setCells b o vs).tape=w.tape/\(w.setCells b o vs).output=w.output/\(w.setCells b o vs).drawn=w.drawn
 | [],_,_=>⟨rfl,rfl,rfl,rfl⟩
 | v::r,o,w=>by rw [World.setCells]; exact Nf b r (o+1) _
structure But (b:Nat) (w w':World):Prop where
 os:w'.os=w.os
 tape:w'.tape=w.tape
 output:w'.output=w.output
 size:w'.heap.size=w.heap.size
 block:∀ k,k≠b->w'.heap[k]? = w.heap[k]?
 drawn:w'.drawn=w.drawn
theorem Pr(w:World)(b o:Nat)(vs:List Value):But b w (w.setCells b o vs) :=
 ⟨(Nf b vs o w).1,(Nf b vs o w).2.1,(Nf b vs o w).2.2.1,Jh7 b vs o w,fun k hk=>Ja0 b vs o w k hk,(Nf b vs o w).2.2.2⟩
theorem But.below{b:Nat}{E:Nat->Prop}{w0 w w':World}(h:Wr E w0 w)(hb:But b w w')(hB:w0.heap.size<=b\/E b):Wr E w0 w' :=
 ⟨hb.os.trans h.os,hb.tape.trans h.tape,hb.output.trans h.output,by rw [hb.size]; exact h.size,fun k hk he=>(hb.block k (fun e=>hB.elim (fun q=>by omega) fun q=>he (e▸q))).trans (h.block k hk he),h.dr.trans (.of_le (dT hb.drawn.symm))⟩
theorem But.cell{b:Nat}{w w':World}(hb:But b w w'){k o:Nat}(h:k≠b):w'.cell? ⟨k,o,none⟩=w.cell? ⟨k,o,none⟩:=World.cell?_of_block (w:=w) (a:=⟨k,o,none⟩) (hb.block k h)
theorem But.frozen{b:Nat}{w w':World}(hb:But b w w'){k o:Nat}(h:k≠b):w'.frozen? ⟨k,o,none⟩=w.frozen? ⟨k,o,none⟩:=World.frozen?_of_block (w:=w) (a:=⟨k,o,none⟩) (hb.block k h)
section
variable {Gl:GL} {S0:Bs} {w0:World} {s:PSt} {a:Act} {g:GG}
theorem Kh.setObj(h:Kh Gl S0 w0 s a g){l:Nat}{ob ob':Ue}{w':World}(hl:g.H l=some ob)(hb:But (g.φ l) g.w w')(hshape:∀ cs,ob=.cells cs->∃ cs',ob'=.cells cs'/\cs'.length=cs.length)(hob:∀ g',GLe g g'->g'.w=w'->Jc7 g' (g.φ l) ob') :
  Kh Gl S0 w0 { s with H:=upd s.H l (some ob') } a { g with w:=w',H:=upd g.H l (some ob') }/\GLe g { g with w:=w',H:=upd g.H l (some ob') }:=by
 obtain ⟨o1,o2,o3,o4⟩:=h.objs l ob hl;have hle:GLe g { g with w:=w',H:=upd g.H l (some ob') }:=by
  refine ⟨fun _ _ h=>h,fun B o hBo=>hb.cell (fun e=>o3 o (e▸hBo)),fun B hB=>hb.block _ (fun e=>o3 0 (e▸hB 0)),fun l' ob1 h1=>⟨rfl, ?_⟩,fun t n k ht=>⟨n,ht,aJ _,fun _=>rfl⟩⟩
  by_cases e:l'=l
  ·subst e;rw [hl] at h1; cases h1;exact ⟨ob',Kr _ _ _,hshape⟩
  ·exact ⟨ob1,by show upd g.H l _ l'=_; rw [Kc _ _ _ _ e]; exact h1,fun cs e=>⟨cs,e,rfl⟩⟩
 have hsome:∀ l',((upd g.H l (some ob')) l').isSome=true->(g.H l').isSome=true:=fun l' h1=>by
  by_cases e:l'=l
  ·rw [e,hl]; rfl
  ·rwa [Kc _ _ _ _ e] at h1
 refine ⟨{ hH:=by rw [<- h.hH],hT:=h.hT,defers:=h.defers,len:=h.len,tm:=fun i p v hp hv=>(h.tm i p v hp hv).mono hle,sub:=h.sub,new:=h.new,lt:=fun B o hBo=>by show B<w'.heap.size; rw [hb.size]; exact h.lt B o hBo,below:=hb.below h.below o1,objs:=fun l' ob1 hob1=>?_,inj:=fun l1 l2 h1 h2 he=>h.inj l1 l2 (hsome l1 h1) (hsome l2 h2) he,owns:=fun t n k ht=>?_,ownsEx:=fun t t' B hs hs'=>h.ownsEx t t' B (hs.congr rfl rfl) (hs'.congr rfl rfl),ownsObj:=fun t B l' hs hl'=>h.ownsObj t B l' (hs.congr rfl rfl) (hsome l' hl'),glob:=fun i cs hi=>(h.glob i cs hi).mono hle.S hle.cell hle.blk,exs:=fun t k b xss hX=>(h.exs t k b xss hX).mono hle rfl rfl (dT hb.size.symm) fun B off n cap e1 e2 e3 e4 e5 e6=>⟨fun o=>hb.cell fun e=>e5 l (by rw [hl]; rfl) e.symm,fun o=>hb.frozen fun e=>e5 l (by rw [hl]; rfl) e.symm,e4,fun l' hl'=>e5 l' (hsome l' hl'),fun t' hs=>e6 t' (hs.congr rfl rfl)⟩,exsEx:=fun t t' B h1 h2=>h.exsEx t t' B (h1.congr rfl) (h2.congr rfl),fix:=fun l' B hF=>⟨(h.fix l' B hF).1,fun hs=>(h.fix l' B hF).2 (hsome l' hs)⟩,fixT:=h.fixT },hle⟩
 ·by_cases e:l'=l
  ·subst e;have h1:upd g.H l' (some ob') l'=some ob1:=hob1;rw [Kr] at h1; cases h1;exact ⟨o1,by show g.φ l'<w'.heap.size; rw [hb.size]; exact o2,o3,hob _ hle rfl⟩
  ·have h1:upd g.H l (some ob') l'=some ob1:=hob1;rw [Kc _ _ _ _ e] at h1;obtain ⟨k1,k2,k3,k4⟩:=h.objs l' ob1 h1;have hne:g.φ l'≠g.φ l:=fun he=>e (h.inj l' l (by rw [h1]; rfl) (by rw [hl]; rfl) he);exact ⟨k1,by show g.φ l'<w'.heap.size; rw [hb.size]; exact k2,k3,k4.mono hle (fun o=>hb.cell hne) (fun o=>hb.frozen hne) (fun arr c hc=>by show w'.heap[_]? = _; rw [hb.block _ hne]; exact hc)⟩
 ·rcases h.owns t n k ht with hn|⟨B,off,cap,e1,e2,e3⟩
  ·exact .inl hn
  ·refine .inr ⟨B,off,cap,e1,e2,fun hlt=>?_⟩;obtain ⟨f1,f2,f3,f4⟩:=e3 hlt;have hne:B≠g.φ l:=fun he=>h.ownsObj t B l ⟨n,k,off,cap,ht,e1,hlt⟩ (by rw [hl]; rfl) he.symm;exact ⟨f1,by show B<w'.heap.size; rw [hb.size]; exact f2,fun j hj=>by show (w'.cell? _).isSome=true/\w'.frozen? _=false; rw [hb.cell hne,hb.frozen hne]; exact f3 j hj,f4⟩
theorem Kh.tokRoom(h:Kh Gl S0 w0 s a g){t n k m B off cap:Nat}{vs:List Value}(ht:g.T t=some (n,k))(hhd:g.hd t=.slice (some ⟨B,off,none⟩) n cap)(hm:0<m)(hcap:n+m<=cap)(hvs:vs.length=m * k)(hk0:k≠0)(hX:s.X t=none) :
  Kh Gl S0 w0 { s with T:=upd s.T t (some (n+m,k)) } a
   {g with w:=g.w.setCells B (off+n * k) vs,S:=fun b o=>g.S b o\/(b=B/\off+n * k<=o/\o<off+(n+m) * k),hd:=fun x=>if x=t then .slice (some ⟨B,off,none⟩) (n+m) cap else g.hd x,T:=upd g.T t (some (n+m,k)) } /\
  GLe g { g with w:=g.w.setCells B (off+n * k) vs,S:=fun b o=>g.S b o\/(b=B/\off+n * k<=o/\o<off+(n+m) * k),hd:=fun x=>if x=t then .slice (some ⟨B,off,none⟩) (n+m) cap else g.hd x,T:=upd g.T t (some (n+m,k)) }:=by
 have hroom:Jum n k cap:=.of_lt oG;have hsp:Wi g t B:=⟨n,k,off,cap,ht,hhd,hroom⟩
 obtain ⟨f1,f2,f3,f4⟩:w0.heap.size<=B/\B<g.w.heap.size/\g.w.there B off (cap * k)/\∀ o,g.S B o->o<off+n * k:=by
  rcases h.owns t n k ht with ⟨e,_⟩|⟨B',off',cap',e,_,hr⟩
  ·have:=(e.slice hhd).2; omega
  ·rw [e] at hhd; cases hhd; exact ⟨(hr hroom).1 hk0,(hr hroom).2.1,(hr hroom).2.2.1,(hr hroom).2.2.2 hk0⟩
 have hb:=Pr g.w B (off+n * k) vs;have hmul:(n+m) * k=n * k+m * k:=cT n m k;have hle:GLe g { g with w:=g.w.setCells B (off+n * k) vs,S:=fun b o=>g.S b o\/(b=B/\off+n * k<=o/\o<off+(n+m) * k),hd:=fun x=>if x=t then .slice (some ⟨B,off,none⟩) (n+m) cap else g.hd x,T:=upd g.T t (some (n+m,k)) }:=by
  refine ⟨fun _ _ h=>.inl h,fun b o hbo=>?_,fun b hbo=>hb.block _ fun e=>absurd (f4 (off+n * k) (e▸hbo (off+n * k))) (Nat.lt_irrefl _),fun l ob h1=>⟨rfl,ob,h1,fun cs e=>⟨cs,e,rfl⟩⟩,fun t' n' k' h1=>?_⟩
  ·by_cases e:b=B
   ·subst e;exact World.cell?_setCells_out _ _ _ _ _ (fun _ _=>.inl (f4 o hbo))
   ·exact hb.cell e
  ·by_cases e:t'=t
   ·subst e;rw [ht] at h1; cases h1;exact ⟨n+m,Kr _ _ _,by omega,fun e=>by omega⟩
   ·exact ⟨n',by show upd g.T t _ t'=_; rw [Kc _ _ _ _ e]; exact h1,aJ _,fun _=>if_neg e⟩
 have hspare:∀ t' b,Wi { g with w:=g.w.setCells B (off+n * k) vs,S:=fun b o=>g.S b o\/(b=B/\off+n * k<=o/\o<off+(n+m) * k),hd:=fun x=>if x=t then .slice (some ⟨B,off,none⟩) (n+m) cap else g.hd x,T:=upd g.T t (some (n+m,k)) } t' b->Wi g t' b:=by
  rintro t' b ⟨n',k',off',cap',h1,h2,h3⟩
  by_cases e:t'=t
  ·subst e;simp only [if_true] at h2;cases h2;exact hsp
  ·have h1':upd g.T t (some (n+m,k)) t'=some (n',k'):=h1;rw [Kc _ _ _ _ e] at h1';simp only [if_neg e] at h2;exact ⟨n',k',off',cap',h1',h2,h3⟩
 have hxb:∀ t' b,XB s.X { g with w:=g.w.setCells B (off+n * k) vs,S:=fun b o=>g.S b o\/(b=B/\off+n * k<=o/\o<off+(n+m) * k),hd:=fun x=>if x=t then .slice (some ⟨B,off,none⟩) (n+m) cap else g.hd x,T:=upd g.T t (some (n+m,k)) } t' b->XB s.X g t' b:=by
  rintro t' b ⟨h1,off',n',cap',h2⟩;have hne:t'≠t:=fun e=>by rw [e,hX] at h1; cases h1
  simp only [if_neg hne] at h2;exact ⟨h1,off',n',cap',h2⟩
 refine ⟨{ hH:=h.hH,hT:=by rw [<- h.hT],defers:=h.defers,len:=h.len,tm:=fun i p v hp hv=>(h.tm i p v hp hv).mono hle,sub:=fun b o hbo=>.inl (h.sub b o hbo),new:=fun b o hbo=>?_,lt:=fun b o hbo=>?_,below:=hb.below h.below (.inl f1),objs:=fun l ob hob=>?_,inj:=h.inj,owns:=fun t' n' k' ht'=>?_,ownsEx:=fun t1 t2 b h1 h2=>h.ownsEx t1 t2 b (hspare t1 b h1) (hspare t2 b h2),ownsObj:=fun t' b l hs hl=>h.ownsObj t' b l (hspare t' b hs) hl,glob:=fun i cs hi=>(h.glob i cs hi).mono hle.S hle.cell hle.blk,exs:=fun t' k' b' xss' hx=>?_,exsEx:=fun t1 t2 b h1 h2=>h.exsEx t1 t2 b (hxb t1 b h1) (hxb t2 b h2),fix:=h.fix,fixT:=fun t' v' n' hF=>⟨(h.fixT t' v' n' hF).1,fun n0 e=>by
  have e':upd g.T t (some (n+m,k)) t'=some (n0,0):=e
  by_cases q:t'=t
  ·rw [q,Kr] at e'; cases e'; exact absurd rfl hk0
  ·rw [Kc _ _ _ _ q] at e';simp only [if_neg q]; exact (h.fixT t' v' n' hF).2 n0 e'⟩ },hle⟩
 rotate_right
 ·have hne:t'≠t:=fun e=>by rw [e,hX] at hx; cases hx
  refine (h.exs t' k' b' xss' hx).mono hle (Kc _ _ _ _ hne) (if_neg hne) (dT hb.size.symm) fun B' off' n' cap' e1 e2 e3 e4 e5 e6=>?_;have hBB:B'≠B:=fun e=>hne (e6 t (e▸hsp)).symm;exact ⟨fun o=>hb.cell hBB,fun o=>hb.frozen hBB,fun o ho=>ho.elim (e4 o) fun q=>hBB q.1,e5,fun t2 hs=>e6 t2 (hspare t2 B' hs)⟩
 ·rcases hbo with hbo|⟨rfl,_,_⟩
  ·exact h.new b o hbo
  ·exact .inr (.inl f1)
 ·show b<(g.w.setCells B (off+n * k) vs).heap.size;rw [hb.size];rcases hbo with hbo|⟨rfl,_,_⟩
  ·exact h.lt b o hbo
  ·exact f2
 ·obtain ⟨k1,k2,k3,k4⟩:=h.objs l ob hob;have hne:g.φ l≠B:=h.ownsObj t B l hsp (by rw [show g.H l=some ob from hob]; rfl);exact ⟨k1,by show g.φ l<(g.w.setCells B (off+n * k) vs).heap.size; rw [hb.size]; exact k2,fun o ho=>ho.elim (k3 o) (fun e=>hne e.1),k4.mono hle (fun o=>hb.cell hne) (fun o=>hb.frozen hne) (fun arr c hc=>by show (g.w.setCells B (off+n * k) vs).heap[_]? = _; rw [hb.block _ hne]; exact hc)⟩
 ·by_cases e:t'=t
  ·subst e;have h1:upd g.T t' (some (n+m,k)) t'=some (n',k'):=ht';rw [Kr] at h1; cases h1;refine .inr ⟨B,off,cap,if_pos rfl,hcap,fun hlt=>⟨fun _=>f1,by show B<(g.w.setCells B (off+n * k) vs).heap.size; rw [hb.size]; exact f2,World.there_setCells f3 B (off+n * k) vs,fun _ o ho=>?_⟩⟩
   ·rcases ho with ho|⟨_,_,ho⟩
    ·have:=f4 o ho; rw [hmul]; omega
    ·exact ho
  ·have h1:upd g.T t (some (n+m,k)) t'=some (n',k'):=ht';rw [Kc _ _ _ _ e] at h1;unfold Jka;simp only [if_neg e];rcases h.owns t' n' k' h1 with hn|⟨B',off',cap',e1,e2,e3⟩
   ·exact .inl hn
   ·refine .inr ⟨B',off',cap',e1,e2,fun hlt=>?_⟩;obtain ⟨q1,q2,q3,q4⟩:=e3 hlt;have hne:B'≠B:=fun he=>e (h.ownsEx t' t B' ⟨n',k',off',cap',h1,e1,hlt⟩ (by rw [he]; exact hsp));exact ⟨q1,by rw [hb.size]; exact q2,fun j hj=>by rw [hb.cell hne,hb.frozen hne]; exact q3 j hj,fun hk o ho=>ho.elim (q4 hk o) (fun e'=>absurd e'.1 hne)⟩
theorem Kh.setTok(h:Kh Gl S0 w0 s a g){t n k:Nat}{v:Value}(ht:∀ n0 k0,g.T t=some (n0,k0)->k0=k/\n0<n)(hk0:k≠0)(hok:∀ g':GG,g'.w=g.w->g'.S=g.S->g'.hd t=v->Jka g' w0.heap.size t n k)(hsp:∀ B off cap,v=.slice (some ⟨B,off,none⟩) n cap->Jum n k cap->(∀ t',¬ Wi g t' B)/\(∀ l,(g.H l).isSome=true->g.φ l≠B)/\∀ t',¬ XB s.X g t' B)(hX:s.X t=none) :
  Kh Gl S0 w0 { s with T:=upd s.T t (some (n,k)) } a { g with hd:=fun x=>if x=t then v else g.hd x,T:=upd g.T t (some (n,k)) }/\GLe g { g with hd:=fun x=>if x=t then v else g.hd x,T:=upd g.T t (some (n,k)) }:=by
 have hle:GLe g { g with hd:=fun x=>if x=t then v else g.hd x,T:=upd g.T t (some (n,k)) }:=by
  refine ⟨fun _ _ h=>h,fun _ _ _=>rfl,fun _ _=>rfl,fun l ob h1=>⟨rfl,ob,h1,fun cs e=>⟨cs,e,rfl⟩⟩,fun t' n' k' h1=>?_⟩
  by_cases e:t'=t
  ·subst e;obtain ⟨rfl,hlt⟩:=ht _ _ h1;exact ⟨n,Kr _ _ _,by omega,fun e=>by omega⟩
  ·exact ⟨n',by show upd g.T t _ t'=_; rw [Kc _ _ _ _ e]; exact h1,aJ _,fun _=>if_neg e⟩
 have hspare:∀ t' B,Wi { g with hd:=fun x=>if x=t then v else g.hd x,T:=upd g.T t (some (n,k)) } t' B->(t'=t/\∃ off cap,v=.slice (some ⟨B,off,none⟩) n cap/\Jum n k cap)\/(t'≠t/\Wi g t' B):=by
  rintro t' B ⟨n',k',off,cap,h1,h2,h3⟩
  by_cases e:t'=t
  ·subst e;have h1':upd g.T t' (some (n,k)) t'=some (n',k'):=h1;rw [Kr] at h1';cases h1';simp only [if_true] at h2;exact .inl ⟨rfl,off,cap,h2,h3⟩
  ·have h1':upd g.T t (some (n,k)) t'=some (n',k'):=h1;rw [Kc _ _ _ _ e] at h1';simp only [if_neg e] at h2;exact .inr ⟨e,n',k',off,cap,h1',h2,h3⟩
 have hxb:∀ t' b,XB s.X { g with hd:=fun x=>if x=t then v else g.hd x,T:=upd g.T t (some (n,k)) } t' b->XB s.X g t' b:=by
  rintro t' b ⟨h1,off',n',cap',h2⟩;have hne:t'≠t:=fun e=>by rw [e,hX] at h1; cases h1
  simp only [if_neg hne] at h2;exact ⟨h1,off',n',cap',h2⟩
 refine ⟨{ hH:=h.hH,hT:=by rw [<- h.hT],defers:=h.defers,len:=h.len,tm:=fun i p v hp hv=>(h.tm i p v hp hv).mono hle,sub:=h.sub,new:=h.new,lt:=h.lt,below:=h.below,objs:=fun l ob hob=>?_,inj:=h.inj,owns:=fun t' n' k' ht'=>?_,ownsEx:=fun t1 t2 B h1 h2=>?_,ownsObj:=fun t' B l hs hl=>?_,glob:=h.glob,exs:=fun t' k' b' xss' hx=>?_,exsEx:=fun t1 t2 b h1 h2=>h.exsEx t1 t2 b (hxb t1 b h1) (hxb t2 b h2),fix:=h.fix,fixT:=fun t' v' n' hF=>⟨(h.fixT t' v' n' hF).1,fun n0 e=>by
  have e':upd g.T t (some (n,k)) t'=some (n0,0):=e
  by_cases q:t'=t
  ·rw [q,Kr] at e'; cases e'; exact absurd rfl hk0
  ·rw [Kc _ _ _ _ q] at e';simp only [if_neg q]; exact (h.fixT t' v' n' hF).2 n0 e'⟩ },hle⟩
 rotate_right
 ·have hne:t'≠t:=fun e=>by rw [e,hX] at hx; cases hx
  refine (h.exs t' k' b' xss' hx).mono hle (Kc _ _ _ _ hne) (if_neg hne) (aJ _) fun B' off' n' cap' e1 e2 e3 e4 e5 e6=>⟨fun _=>rfl,fun _=>rfl,e4,e5,fun t2 hs=>?_⟩
  rcases hspare t2 B' hs with ⟨_,off2,cap2,q1,q2⟩|⟨_,q⟩
  ·exact absurd (show XB s.X g t' B' from ⟨by rw [hx]; rfl,off',n',cap',e1⟩) ((hsp B' off2 cap2 q1 q2).2.2 t')
  ·exact e6 t2 q
 ·obtain ⟨k1,k2,k3,k4⟩:=h.objs l ob hob;exact ⟨k1,k2,k3,k4.mono hle (fun _=>rfl) (fun _=>rfl) (fun _ _ h=>h)⟩
 ·by_cases e:t'=t
  ·subst e;have h1:upd g.T t' (some (n,k)) t'=some (n',k'):=ht';rw [Kr] at h1;cases h1;exact hok _ rfl rfl (if_pos rfl)
  ·have h1:upd g.T t (some (n,k)) t'=some (n',k'):=ht';rw [Kc _ _ _ _ e] at h1;have:=h.owns t' n' k' h1;unfold Jka at this ⊢;simp only [if_neg e];exact this
 ·rcases hspare t1 B h1 with ⟨e1,off,cap,e,hlt⟩|⟨e1,h1'⟩ <;> rcases hspare t2 B h2 with ⟨e2,off2,cap2,e',hlt'⟩|⟨e2,h2'⟩
  ·rw [e1,e2]
  ·exact absurd h2' ((hsp B off cap e hlt).1 t2)
  ·exact absurd h1' ((hsp B off2 cap2 e' hlt').1 t1)
  ·exact h.ownsEx t1 t2 B h1' h2'
 ·rcases hspare t' B hs with ⟨e1,off,cap,e,hlt⟩|⟨e1,h1'⟩
  ·exact (hsp B off cap e hlt).2.1 l hl
  ·exact h.ownsObj t' B l h1' hl
theorem Kh.drew(h:Kh Gl S0 w0 s a g):Kh Gl S0 w0 s a { g with w:=g.w.drew }/\GLe g { g with w:=g.w.drew } :=
 h.grow' ((Pt.refl _ _).drew)
end
def Jr7(H:Nat->Option Ue):PV->Bool
 | .ref l _=>(H l).isSome
 | _=>true
def Pa(H:Nat->Option Ue)(T:Nat->Option (Nat×Nat)):PV->Bool
 | .lst (.own t) _ _ _=>(T t).isSome
 | .ex t _ _ _ _ _|.eref t _ _ _ _=>(T t).isSome
 | .ref l _|.mp l|.sl l _ _ _ _=>(H l).isSome
 | .fn _ caps=>caps.all (Jr7 H)
 | _=>true
def Jcf(H:Nat->Option Ue)(T:Nat->Option (Nat×Nat)):PV->Bool
 | .agg cs=>cs.all (Pa H T)
 | p=>Pa H T p
def Hr(H:Nat->Option Ue)(T:Nat->Option (Nat×Nat)):PV->Bool
 | .tup vs=>vs.all (Jcf H T)
 | p=>Jcf H T p
inductive Wk1 (H:Nat->Option Ue) (T:Nat->Option (Nat×Nat)):PV->PV->Prop
 | any (p:PV):Wk1 H T p .any
 | same (p:PV) (h:Pa H T p=true):Wk1 H T p p
 | thaw (t k b:Nat) (xss:List (List PV)):Wk1 H T (.lst (.own t) k b xss) (.lst .frozen k b xss)
 | full (k b:Nat) (xss:List (List PV)):Wk1 H T (.lst .full k b xss) (.lst .frozen k b xss)
 | nil (o:Own) (k b:Nat) (ho:o=.frozen\/o=.full):Wk1 H T .nil (.lst o k b [])
inductive WkA (H:Nat->Option Ue) (T:Nat->Option (Nat×Nat)):PV->PV->Prop
 | any (p:PV):WkA H T p .any
 | same (p:PV) (h:Jcf H T p=true) (ht:∀ vs,p≠.tup vs):WkA H T p p
 | thaw (t k b:Nat) (xss:List (List PV)):WkA H T (.lst (.own t) k b xss) (.lst .frozen k b xss)
 | full (k b:Nat) (xss:List (List PV)):WkA H T (.lst .full k b xss) (.lst .frozen k b xss)
 | nil (o:Own) (k b:Nat) (ho:o=.frozen\/o=.full):WkA H T .nil (.lst o k b [])
 | agg (cs cs':List PV) (h:Kg (Wk1 H T) cs cs'):WkA H T (.agg cs) (.agg cs')
inductive WkV (H:Nat->Option Ue) (T:Nat->Option (Nat×Nat)):PV->PV->Prop
 | any (p:PV):WkV H T p .any
 | same (p:PV) (h:Hr H T p=true):WkV H T p p
 | part (p q:PV) (h:WkA H T p q):WkV H T p q
 | tup (vs vs':List PV) (h:Kg (WkA H T) vs vs'):WkV H T (.tup vs) (.tup vs')
inductive WkO (H:Nat->Option Ue) (T:Nat->Option (Nat×Nat)):Ue->Ue->Prop
 | cells (cs cs':List PV) (h:Kg (Wk1 H T) cs cs'):WkO H T (.cells cs) (.cells cs')
 | map (es:List (PV×PV)):WkO H T (.map es) (.map es)
 | iter (b:ByteArray) (pos:Nat):WkO H T (.iter b pos) (.iter b pos)
 | miter (ks vs:List PV) (left:List Nat) (cur:Option Nat):WkO H T (.miter ks vs left cur) (.miter ks vs left cur)
 | mapo (es:List (PV×List (List PV))) (k b:Nat) (tk:Nat->Nat) (h:∀ i,i<es.length->(T (tk i)).isSome=true):WkO H T (.mapo es k b tk) (.mapo es k b tk)
 | mapf (es:List (PV×List (List PV))) (k b:Nat) (tk:Nat->Nat):WkO H T (.mapo es k b tk) (.map (es.map fun e=>(e.1,.lst .frozen k b e.2)))
structure Jgv (s s':PSt):Prop where
 tm:Kg (WkV s'.H s'.T) s.tm s'.tm
 H:∀ l ob',s'.H l=some ob'->∃ ob,s.H l=some ob/\WkO s'.H s'.T ob ob'
 T:∀ t x,s'.T t=some x->s.T t=some x
 X:∀ t x,s'.X t=some x->s.X t=some x/\(s'.T t).isSome=true
 m:s'.m=s.m
section
variable {g:GG} {H':Nat->Option Ue} {T':Nat->Option (Nat×Nat)}
structure Cut (g:GG) (H':Nat->Option Ue) (T':Nat->Option (Nat×Nat)):Prop where
 T:∀ t x,T' t=some x->g.T t=some x
 H:∀ l cs,g.H l=some (.cells cs)->(H' l).isSome=true->∃ cs',H' l=some (.cells cs')/\cs'.length=cs.length
theorem Jbr.live{p:PV}{v:Value}(h:Jbr g p v)(hl:Jr7 H' p=true):Jbr { g with H:=H',T:=T' } p v:=by
 cases p <;> simp only [Jbr,Jr7] at h hl ⊢
 case ref=>exact ⟨h.1,hl⟩
 all_goals exact h
theorem Kk.live(hc:Cut g H' T'){p:PV}{v:Value}(h:Kk g p v)(hl:Pa H' T' p=true):Kk { g with H:=H',T:=T' } p v:=by
 cases p
 case lst o k b xss=>
  cases o
  case own t=>
   simp only [Kk,Pa] at h hl ⊢;obtain ⟨h1,n,h2,h3⟩:=h;obtain ⟨x,hx⟩:=aL.1 hl;have:=hc.T t x hx;rw [h2] at this; cases this;exact ⟨h1,n,hx,h3⟩
  all_goals exact h
 case ex t k b N o n=>
  simp only [Kk,Pa] at h hl ⊢;obtain ⟨h1,n,h2,h3⟩:=h;obtain ⟨x,hx⟩:=aL.1 hl;have:=hc.T t x hx;rw [h2] at this; cases this;exact ⟨h1,n,hx,h3⟩
 case eref t k N j off=>
  simp only [Kk,Pa] at h hl ⊢;obtain ⟨h1,n,h2,h3⟩:=h;obtain ⟨x,hx⟩:=aL.1 hl;have:=hc.T t x hx;rw [h2] at this; cases this;exact ⟨h1,n,hx,h3⟩
 case ref l off=>exact ⟨h.1,hl⟩
 case mp l=>exact ⟨h.1,hl⟩
 case sl l o len k b=>
  simp only [Kk,Pa] at h hl ⊢;obtain ⟨h1,cs,h2,h3⟩:=h;obtain ⟨cs',e1,e2⟩:=hc.H l cs h2 hl;exact ⟨h1,cs',e1,by omega⟩
 case fn f caps=>
  simp only [Kk,Pa] at h hl ⊢;obtain ⟨arr,h1,h2⟩:=h;exact ⟨arr,h1,h2.1,fun i x y hx hy=>(h2.2 i x y hx hy).live (aK.1 hl x (aC hx))⟩
 all_goals exact h
theorem Jv.unfull{S:Qa}{w:World}{k b:Nat}{xss:List (List PV)}{v:Value}(h:Jv S w (.lst .full k b xss) v):Jv S w (.lst .frozen k b xss) v:=by
 simp only [Jv] at h ⊢;obtain ⟨h1,h2,h3,h4⟩:=h;refine ⟨h1,h2,.inl trivial,h4.imp id ?_⟩;rintro ⟨B,off,cap,e1,e2,e3,e4⟩;exact ⟨B,off,cap,e1,e2,fun e=>(by cases e),e4⟩
theorem Jv.ofNil{S:Qa}{w:World}{o:Own}{v:Value}(k b:Nat)(ho:o=.frozen\/o=.full)(h:Jv S w .nil v):Jv S w (.lst o k b []) v:=by
 have hv:v=.slice none 0 0:=by simpa only [Jv] using h
 subst hv;simp only [Jv];exact ⟨by simp,by simp,ho,.inl ⟨.inl rfl,trivial⟩⟩
theorem Kk.weak(hc:Cut g H' T'){p q:PV}{v:Value}(h:Kk g p v)(hw:Wk1 H' T' p q):Kk { g with H:=H',T:=T' } q v:=by
 cases hw with
 | any=>trivial
 | same _ hl=>exact h.live hc hl
 | thaw t k b xss=>exact h.1
 | full k b xss=>exact Jv.unfull h
 | nil o k b ho=>rcases ho with rfl|rfl <;> exact Jv.ofNil k b sG h
theorem Yr.weak(hc:Cut g H' T'){p q:PV}{v:Value}(h:Yr g p v)(hw:Wk1 H' T' p q):Yr { g with H:=H',T:=T' } q v:=⟨h.1.weak hc hw,h.2⟩
theorem Kg.comp{α β γ:Type}{R:α->γ->Prop}{W:α->β->Prop}{R':β->γ->Prop}{xs:List α}{ys:List β}{zs:List γ}(h:Kg R xs zs)(hw:Kg W xs ys)(hr:∀ x y z,R x z->W x y->R' y z):Kg R' ys zs :=
 ⟨hw.1.symm.trans h.1,fun i y z hy hz=>by
  obtain ⟨x,hx,hxy⟩:=hw.left hy;exact hr x y z (h.2 i x z hx hz) hxy⟩
theorem Ks.live(hc:Cut g H' T'){p:PV}{v:Value}(h:Ks g p v)(hl:Jcf H' T' p=true):Ks { g with H:=H',T:=T' } p v:=by
 cases p
 case agg cs=>
  simp only [Ks,Jcf] at h hl ⊢;obtain ⟨arr,e1,e2⟩:=h;exact ⟨arr,e1,e2.1,fun i x y hx hy=>⟨(e2.2 i x y hx hy).1.live hc (aK.1 hl x (aC hx)),(e2.2 i x y hx hy).2⟩⟩
 all_goals (simp only [Ks,Jcf] at h hl ⊢; exact h.live hc hl)
theorem Rel.live(hc:Cut g H' T'){p:PV}{v:Value}(h:Rel g p v)(hl:Hr H' T' p=true):Rel { g with H:=H',T:=T' } p v:=by
 cases p
 case tup vs=>
  simp only [Rel,Hr] at h hl ⊢;obtain ⟨arr,h1,h2⟩:=h;exact ⟨arr,h1,h2.1,fun i x y hx hy=>(h2.2 i x y hx hy).live hc (aK.1 hl x (aC hx))⟩
 all_goals (simp only [Rel,Hr] at h hl ⊢; exact h.live hc hl)
theorem Ks.weak(hc:Cut g H' T'){p q:PV}{v:Value}(h:Ks g p v)(hw:WkA H' T' p q):Ks { g with H:=H',T:=T' } q v:=by
 cases hw with
 | any=>trivial
 | same _ hl ht=>exact h.live hc hl
 | thaw t k b xss=>exact h.1
 | full k b xss=>exact Jv.unfull h
 | nil o k b ho=>rcases ho with rfl|rfl <;> exact Jv.ofNil k b sG h
 | agg cs cs' hw=>
  simp only [Ks] at h ⊢;obtain ⟨arr,h1,h2⟩:=h;exact ⟨arr,h1,h2.comp hw fun x y z hx hw=>hx.weak hc hw⟩
theorem Kk.relA'{g:GG}{p:PV}{v:Value}(h:Kk g p v):Ks g p v:=by
 cases p <;> first|exact h|exact h.elim
theorem Ks.rel{g:GG}{p:PV}{v:Value}(h:Ks g p v):Rel g p v:=by
 cases p <;> first|exact h|exact h.elim
theorem Rel.weak(hc:Cut g H' T'){p q:PV}{v:Value}(h:Rel g p v)(hw:WkV H' T' p q):Rel { g with H:=H',T:=T' } q v:=by
 cases hw with
 | any=>trivial
 | same _ hl=>exact h.live hc hl
 | part _ _ hw=>
  have hp:(∀ vs,p≠.tup vs)\/q=.any:=by
   cases hw with
   | any=>exact .inr rfl
   | same _ _ ht=>exact .inl ht
   | thaw=>exact .inl fun _ e=>by cases e
   | full=>exact .inl fun _ e=>by cases e
   | nil=>exact .inl fun _ e=>by cases e
   | agg=>exact .inl fun _ e=>by cases e
  rcases hp with hp|rfl
  ·have hA:Ks g p v:=by cases p <;> first|exact h|exact absurd rfl (hp _)
   exact (hA.weak hc hw).rel
  ·trivial
 | tup vs vs' hw=>
  simp only [Rel] at h ⊢;obtain ⟨arr,h1,h2⟩:=h;exact ⟨arr,h1,h2.comp hw fun x y z hx hw=>hx.weak hc hw⟩
end
section
variable {Gl:GL} {S0:Bs} {w0:World} {s s':PSt} {a:Act} {g:GG}
theorem Jgv.cut(hw:Jgv s s')(hH:g.H=s.H)(hT:g.T=s.T):Cut g s'.H s'.T:=by
 refine ⟨fun t x h=>by rw [hT]; exact hw.T t x h,fun l cs h hl=>?_⟩;obtain ⟨ob',hob'⟩:=aL.1 hl;obtain ⟨ob,h1,h2⟩:=hw.H l ob' hob';rw [hH,h1] at h; cases h;cases h2 with
 | cells _ cs' h3=>exact ⟨cs',hob',h3.1.symm⟩
theorem Kh.weak(h:Kh Gl S0 w0 s a g)(hw:Jgv s s'):Kh Gl S0 w0 s' a { g with H:=s'.H,T:=s'.T }:=by
 have hc:=hw.cut h.hH h.hT;have hlive:∀ l,(s'.H l).isSome=true->(g.H l).isSome=true:=fun l hl=>by
  obtain ⟨ob',hob'⟩:=aL.1 hl;obtain ⟨ob,h1,_⟩:=hw.H l ob' hob';rw [h.hH,h1]; rfl
 have hsp:∀ t B,Wi { g with H:=s'.H,T:=s'.T } t B->Wi g t B:=by
  rintro t B ⟨n,k,off,cap,h1,h2,h3⟩;exact ⟨n,k,off,cap,hc.T t _ h1,h2,h3⟩
 have hxs:∀ t,(s'.X t).isSome=true->(s.X t).isSome=true:=fun t ht=>by
  obtain ⟨x,hx⟩:=aL.1 ht;rw [(hw.X t x hx).1]; rfl
 refine { hH:=rfl,hT:=rfl,defers:=h.defers,len:=by rw [<- hw.tm.1,hw.m]; exact h.len,tm:=fun i p v hp hv=>?_,sub:=h.sub,new:=h.new,lt:=h.lt,below:=h.below,objs:=fun l ob' hob'=>?_,inj:=fun l l' h1 h2 he=>h.inj l l' (hlive l h1) (hlive l' h2) he,owns:=fun t n k ht=>h.owns t n k (hc.T t _ ht),ownsEx:=fun t t' B h1 h2=>h.ownsEx t t' B (hsp t B h1) (hsp t' B h2),ownsObj:=fun t B l h1 h2=>h.ownsObj t B l (hsp t B h1) (hlive l h2),glob:=h.glob,exs:=fun t k b xss hx=>?_,exsEx:=fun t t' B h1 h2=>h.exsEx t t' B ⟨hxs t h1.1,h1.2⟩ ⟨hxs t' h2.1,h2.2⟩,fix:=fun l B hF=>⟨(h.fix l B hF).1,fun hs=>(h.fix l B hF).2 (hlive l hs)⟩,fixT:=fun t v n hF=>⟨(h.fixT t v n hF).1,fun n0 e=>(h.fixT t v n hF).2 n0 (hc.T t _ e)⟩ }
 rotate_right
 ·obtain ⟨x1,x2⟩:=hw.X t _ hx;obtain ⟨q1,q2,q3,q4,q5,q6⟩:=h.exs t k b xss x1;obtain ⟨y,hy⟩:=aL.1 x2;have hyy:=hc.T t y hy;rw [q1] at hyy; cases hyy;refine ⟨hy,q2,q3,q4,q5,q6.imp id ?_⟩;rintro ⟨B,cap,e,hc0,h1,h2,h3,h4,h5,h6,h7,h8⟩;exact ⟨B,cap,e,hc0,h1,h2,h3,h4,h5,h6,fun l hl=>h7 l (hlive l hl),fun t' ht'=>h8 t' (hsp t' B ht')⟩
 ·obtain ⟨q,hq,hqp⟩:=hw.tm.left hp;exact (h.tm i q v hq hv).weak hc hqp
 ·obtain ⟨ob,h1,h2⟩:=hw.H l ob' hob';obtain ⟨k1,k2,k3,k4⟩:=h.objs l ob (by rw [h.hH]; exact h1);refine ⟨k1,k2,k3, ?_⟩;cases h2 with
  | cells cs cs' h3=>
   obtain ⟨vs,e1,e2,e3⟩:=k4;exact ⟨vs,e1.comp h3 fun x y z hx hw=>hx.weak hc hw,e2,e3⟩
  | map es=>exact k4
  | iter b pos=>exact k4
  | miter ks vs left cur=>exact k4
  | mapo es k b tk hT=>
   obtain ⟨e0,arr,clock,e1,e2,e3⟩:=k4;exact ⟨e0,arr,clock,e1,e2,fun i e m he hm=>⟨(e3 i e m he hm).1,(e3 i e m he hm).2.live hc (hT i (aG.1 he).1)⟩⟩
  | mapf es k b tk=>
   obtain ⟨e0,arr,clock,e1,e2,e3⟩:=k4;refine ⟨arr,clock,e1,by simp [e2],fun i p m hp hm=>?_⟩;rw [aN] at hp;obtain ⟨e,he,rfl⟩:=aD.1 hp;obtain ⟨q1,q2⟩:=e3 i e m he (by simpa using hm);exact ⟨q1,q2.1,rfl⟩
theorem Inv.weak{w:World}(h:Inv Gl S0 w0 s a w)(hw:Jgv s s'):Inv Gl S0 w0 s' a w:=by
 obtain ⟨g,rfl,hg⟩:=h;exact ⟨{ g with H:=s'.H,T:=s'.T },rfl,hg.weak hw⟩
end
end PM
namespace PM
open Go Go.RowKit
def Fm : TypeDesc->Bool
 | .struct _|.array _ _=>true
 | _=>false
def tyK(P:Program)(t:TypeId):Option (Bool×Nat) :=
 match P.info? t,P.underlying t with
 | some i,some d=>some (Fm d,i.size)
 | _,_=>none
def Jfx(P:Program)(t:TypeId)(f:Nat):Option (Nat×Bool×Nat) :=
 match P.underlying t with
 | some (.struct fs)=>match fs[f]? with
  | some fl=>(tyK P fl.type).map fun x=>(fl.offset,x.1,x.2)
  | none=>none
 | _=>none
def Jb9(P:Program)(t:TypeId):Option (TypeId×Bool×Nat×Nat) :=
 match P.underlying t with
 | some (.slice e)=>match P.info? e,tyK P e with
  | some i,some x=>some (e,x.1,x.2,i.bytes)
  | _,_=>none
 | _=>none
def Jvu(P:Program)(t:TypeId):Option (Nat×Bool×Nat) :=
 match P.underlying t with
 | some (.array n e)=>(tyK P e).map fun x=>(n,x.1,x.2)
 | _=>none
def Hy : Value->PV
 | .int k n=>.int k n
 | .bool b=>.bool b
 | .string s=>.str s
 | .slice none 0 0=>.nil
 | .map none=>.fmp [] []
 | _=>.any
def Sj : Value->PV
 | .agg arr=>.agg (arr.toList.map Hy)
 | v=>Hy v
def Jfg(P:Program)(t:TypeId):Option PV :=
 match P.info? t with
 | some i=>match i.zero with
  | some z=>if z.cells.toList.all (·.oneCell')=true then some (Sj z) else none
  | none=>none
 | none=>none
theorem Jb2{P:Program}{t:TypeId}{z:PV}(h:Jfg P t=some z):∃ i zv,P.info? t=some i/\i.zero=some zv/\Sj zv=z/\∀ v∈zv.cells.toList,v.oneCell'=true:=by
 unfold Jfg at h;split at h
 ·rename_i i hi;split at h
  ·rename_i zv hz;split at h
   ·rename_i hc;cases h;exact ⟨i,zv,hi,hz,rfl,fun v hv=>aK.1 hc v hv⟩
   ·cases h
  ·cases h
 ·cases h
def Jk9(P:Program)(t:TypeId):Bool:=match P.underlying t with|some .string=>true|_=>false
def Kfv(P:Program)(t:TypeId):Bool:=match P.underlying t with|some .bool=>true|_=>false
def Rq(P:Program)(t:TypeId):Bool:=match P.underlying t with|some (.slice _)=>true|_=>false
def Kky(P:Program)(t:TypeId):Bool:=match P.underlying t with|some (.map _ _)=>true|_=>false
def Khp(P:Program)(t:TypeId):Option IntKind:=match P.underlying t with|some (.int k)=>some k|_=>none
inductive CK where
 | i (k:IntKind)|b|s
def Kb0(P:Program)(f:TypeId->Option (List CK)):List Field->Nat->Option (List CK)
 | [],_=>some []
 | fl::rest,off=>
  if fl.name = "_" \/ fl.offset≠off then none else
  match f fl.type,tyK P fl.type with
  | some ks,some (_,n)=>if n=ks.length/\n≠0 then (Kb0 P f rest (off+n)).map (ks++·) else none
  | _,_=>none
def Jkg(P:Program):Nat->TypeId->Option (List CK)
 | 0,_=>none
 | d+1,t=>
  match P.underlying t with
  | some .bool=>some [.b]
  | some (.int k)=>some [.i k]
  | some .string=>some [.s]
  | some (.struct fs)=>if P.stoodInHeld t then none else Kb0 P (Jkg P d) fs.toList 0
  | _=>none
def Jt3(P:Program)(t:TypeId):Bool:=match P.underlying t with|some (.struct _)=>true|_=>false
def eqK(P:Program)(t:TypeId):Option (List CK):=if P.eqGuardType P.depth t || !Jt3 P t then none else Jkg P 10000 t
def peq : List CK->List PV->List PV->Option Bool
 | [],[],[]=>some true
 | .i k::ks,.int k1 a::xs,.int k2 b::ys=>if k1=k/\k2=k then (peq ks xs ys).map (decide (a=b)&&·) else none
 | .b::ks,.bool a::xs,.bool b::ys=>(peq ks xs ys).map ((a == b)&&·)
 | .s::ks,.str a::xs,.str b::ys=>(peq ks xs ys).map (decide (a=b)&&·)
 | _,_,_=>none
section
variable {P:Program}
theorem Xz{t:TypeId}{x:Bool×Nat}(h:tyK P t=some x):∃ i d,P.info? t=some i/\P.underlying t=some d/\x=(Fm d,i.size):=by
 unfold tyK at h;split at h
 ·rename_i i d h1 h2;cases h;exact ⟨i,d,h1,h2,rfl⟩
 ·cases h
theorem Th{t:TypeId}{e:TypeId}{x:Bool}{n b:Nat}(h:Jb9 P t=some (e,x,n,b)):∃ i d,P.underlying t=some (.slice e)/\P.info? e=some i/\P.underlying e=some d/\x=Fm d/\n=i.size/\b=i.bytes:=by
 unfold Jb9 at h;split at h
 ·rename_i e' he;split at h
  ·rename_i i x' h1 h2;cases h;obtain ⟨i',d,h3,h4,rfl⟩:=Xz h2;rw [h1] at h3; cases h3;exact ⟨i,d,he,h1,h4,rfl,rfl,rfl⟩
  ·cases h
 ·cases h
theorem Jho{t:TypeId}{n k:Nat}{x:Bool}(h:Jvu P t=some (n,x,k)):∃ e i d,P.underlying t=some (.array n e)/\P.info? e=some i/\P.underlying e=some d/\x=Fm d/\k=i.size:=by
 unfold Jvu at h;split at h
 ·rename_i n' e he;cases hk:tyK P e with
  | none=>simp [hk] at h
  | some y=>
   obtain ⟨i,d,h1,h2,rfl⟩:=Xz hk;simp [hk] at h;obtain ⟨rfl,rfl,rfl⟩:=h;exact ⟨e,i,d,he,h1,h2,rfl,rfl⟩
 ·cases h
theorem Jgp{t:TypeId}{f off n:Nat}{x:Bool}(h:Jfx P t f=some (off,x,n)):∃ fs fl i d,P.underlying t=some (.struct fs)/\fs[f]? = some fl/\fl.offset=off/\P.info? fl.type=some i/\P.underlying fl.type=some d/\x=Fm d/\n=i.size:=by
 unfold Jfx at h;split at h
 ·rename_i fs hfs;split at h
  ·rename_i fl hfl;cases hk:tyK P fl.type with
   | none=>simp [hk] at h
   | some y=>
    obtain ⟨i,d,h1,h2,rfl⟩:=Xz hk;simp [hk] at h;obtain ⟨rfl,rfl,rfl⟩:=h;exact ⟨fs,fl,i,d,hfs,hfl,rfl,h1,h2,rfl,rfl⟩
  ·cases h
 ·cases h
theorem Pc{t:TypeId}{d:TypeDesc}(h:P.underlying t=some d)(w:World):(isAgg t).run P w=.ok (Fm d) w:=by
 unfold isAgg;rw [Sem.run_bind,run_underlying h];cases d <;> rfl
theorem Wt{t:TypeId}{i:TypeInfo}(h:P.info? t=some i)(w:World):(Go.sizeOf t).run P w=Result.ok i.size w:=by
 simp [Go.sizeOf,typeInfo,h]
theorem Jeu(g:GG)(v:Value):Rel g (Hy v) v:=by
 unfold Hy;split <;> first|trivial|simp [Rel,Ks,Kk,Jv]
theorem Ju4(v:Value)(h:v.oneCell'=true)(g:GG):Yr g (Hy v) v:=by
 refine ⟨?_,h⟩;unfold Hy;split <;> first|trivial|simp [Kk,Jv]
def PSt.ev(s:PSt):Operand->PV
 | .tmp t=>s.get t
 | .const v=>Hy v
 | .global i=>.gptr i 0
 | .func f=>.fn f []
theorem Kh.ev{Gl:GL}{S0:Bs}{w0:World}{s:PSt}{a:Act}{g:GG}(h:Kh Gl S0 w0 s a g)(x:Operand):Rel g (s.ev x) (a.eval x):=by
 cases x with
 | tmp t=>exact h.get t
 | const v=>exact Jeu g v
 | global i=>simp [PSt.ev,Act.eval,Rel,Ks,Kk,Jv]
 | func f=>simp [PSt.ev,Act.eval,Rel,Ks,Kk,Kg]
def CK.fits : CK->Value->Bool
 | .i k,.int k' _=>k=k'
 | .b,.bool _=>true
 | .s,.string _=>true
 | _,_=>false
def Jgy : Value->Value->Bool
 | .int _ a,.int _ b=>a == b
 | .bool a,.bool b=>a == b
 | .string a,.string b=>a.toList == b.toList
 | _,_=>false
def Yp : List Value->List Value->Bool
 | [],[]=>true
 | x::xs,y::ys=>Jgy x y&&Yp xs ys
 | _,_=>false
theorem Jf4 : ∀ {xs xs' ys ys':List Value},xs.length=ys.length->Yp (xs++xs') (ys++ys')=(Yp xs ys&&Yp xs' ys')
 | [],_,[],_,_=>by simp [Yp]
 | x::xs,xs',y::ys,ys',h=>by
  simp only [bO,Yp,Jf4 (xs:=xs) (ys:=ys) (by simpa using h),Bool.and_assoc]
def Jfi(d:TypeDesc)(xs:List Value):Value:=if Fm d then .agg xs.toArray else xs.headD undef
theorem Jwg{t:TypeId}{i:TypeInfo}{d:TypeDesc}(hi:P.info? t=some i)(hd:P.underlying t=some d)(cs:Array Value)(off:Nat)(h:off+i.size<=cs.size)(hs:Fm d=false->i.size=1)(w:World) :
  (part t cs off).run P w=.ok (Jfi d ((cs.toList.drop off).take i.size)) w:=by
 unfold part Jfi;rw [Sem.run_bind,Pc hd];cases hr:Fm d with
 | true=>
  simp only [Result.andThen_ok,if_true,Sem.run_bind,Wt hi,Sem.run_pure];congr 2;apply Array.ext';simp
 | false=>
  have h1:=hs hr;have hlt:off<cs.size:=by omega
  simp only [Result.andThen_ok,aQ,if_false,Array.getElem?_eq_getElem hlt,Sem.run_pure];congr 1;rw [h1,dD (by simpa using hlt)];simp
def Wb : List CK->List Value->Bool
 | [],[]=>true
 | k::ks,v::vs=>k.fits v&&Wb ks vs
 | _,_=>false
theorem Hu : ∀ {ks:List CK} {vs:List Value},Wb ks vs=true->ks.length=vs.length
 | [],[],_=>rfl
 | k::ks,v::vs,h=>by
  simp only [Wb,aI] at h;simp [Hu h.2]
theorem Jde : ∀ {ks ks':List CK} {vs:List Value},Wb (ks++ks') vs=true->Wb ks (vs.take ks.length)=true/\Wb ks' (vs.drop ks.length)=true
 | [],ks',vs,h=>by simpa [Wb] using h
 | k::ks,ks',[],h=>by simp [Wb] at h
 | k::ks,ks',v::vs,h=>by
  simp only [bO,Wb,aI] at h;have:=Jde h.2;simp [Wb,h.1,this.1,this.2]
theorem Jdz{k:CK}{xs:List Value}(h:Wb [k] xs=true):∃ x,xs=[x]/\k.fits x=true:=by
 match xs,h with
 | [],h=>simp [Wb] at h
 | [x],h=>exact ⟨x,rfl,by simpa [Wb] using h⟩
 | _::_::_,h=>simp [Wb] at h
theorem Sd : ∀ (d:Nat) (t:TypeId) (ks:List CK) (td:TypeDesc) (xs ys:List Value) (w:World),Jkg P d t=some ks->P.underlying t=some td->Wb ks xs=true->Wb ks ys=true ->
  (Op.equalIn d t (Jfi td xs) (Jfi td ys)).run P w=.ok (Yp xs ys) w
 | 0,_,_,_,_,_,_,h,_,_,_=>by simp [Jkg] at h
 | d+1,t,ks,td,xs,ys,w,h,ht,hx,hy=>by
  unfold Jkg at h;rw [ht] at h;cases td <;> simp only at h <;> try cases h
  case bool=>
   obtain ⟨x,rfl,gx⟩:=Jdz hx;obtain ⟨y,rfl,gy⟩:=Jdz hy;clear hx hy;cases x <;> simp only [CK.fits] at gx <;> try cases gx
   cases y <;> simp only [CK.fits] at gy <;> try cases gy
   simp [Jfi,Fm,run_equalIn_bool' w d t _ _ ht,Yp,Jgy]
  case int k=>
   obtain ⟨x,rfl,gx⟩:=Jdz hx;obtain ⟨y,rfl,gy⟩:=Jdz hy;clear hx hy;cases x <;> simp only [CK.fits,decide_eq_true_eq] at gx <;> try cases gx
   cases y <;> simp only [CK.fits,decide_eq_true_eq] at gy <;> try cases gy
   simp [Jfi,Fm,run_equalIn_int w d t _ _ _ _ ht,Yp,Jgy]
  case string=>
   obtain ⟨x,rfl,gx⟩:=Jdz hx;obtain ⟨y,rfl,gy⟩:=Jdz hy;clear hx hy;cases x <;> simp only [CK.fits] at gx <;> try cases gx
   cases y <;> simp only [CK.fits] at gy <;> try cases gy
   simp [Jfi,Fm,run_equalIn_string w d t _ _ ht,Yp,Jgy]
  case struct fs=>
   by_cases hs:P.stoodInHeld t=true
   ·rw [if_pos hs] at h; cases h
   ·rw [if_neg hs] at h;have hf:P.fieldsOf t=fs:=by simp [Program.fieldsOf,ht]
    have e:=run_equalIn_struct (P:=P) w d t xs.toArray ys.toArray (by rw [hf]; exact ht) (by simpa using hs);have hw:∀ l:List Value,Jfi (.struct fs) l=.agg l.toArray:=fun l=>by simp [Jfi,Fm]
    rw [hw,hw,e,hf];have key:∀ (l:List Field) (off:Nat) (ks:List CK) (w:World),Kb0 P (Jkg P d) l off=some ks->Wb ks (xs.drop off)=true->Wb ks (ys.drop off)=true ->
      (Op.eqFields d xs.toArray ys.toArray l).run P w=.ok (Yp (xs.drop off) (ys.drop off)) w:=by
     intro l;induction l with
     | nil=>
      intro off ks w h1 h2 h3;simp only [Kb0] at h1;cases h1;have l1:=Hu h2;have l2:=Hu h3;rw [aO l1.symm,aO l2.symm];simp [Op.eqFields,Yp]
     | cons fl l ih=>
      intro off ks w h1 h2 h3;simp only [Kb0] at h1;split at h1
      ·cases h1
      ·rename_i hno;split at h1
       ·rename_i ks1 b n hk1 htk;split at h1
        ·rename_i hn;obtain ⟨i,td',hi,hd,hxx⟩:=Xz htk;have hni:n=i.size:=(bR hxx).2;cases hr:Kb0 P (Jkg P d) l (off+n) with
         | none=>simp [hr] at h1
         | some ks2=>
          simp [hr] at h1;subst h1;have hoff:fl.offset=off:=by
           rcases Nat.decEq fl.offset off with e|e
           ·exact absurd (.inr e) hno
           ·exact e
          have hname:fl.name ≠ "_" := fun e=>hno (.inl e);obtain ⟨x1,x2⟩:=Jde h2;obtain ⟨y1,y2⟩:=Jde h3;rw [eF,<- hn.1] at x2 y2;have lx:=Hu h2;have ly:=Hu h3;simp only [aH,cI] at lx ly;have hsz:Fm td'=false->i.size=1:=fun hrow=>by
           rw [<- hni,hn.1];have hk2:=hk1;cases d with
           | zero=>simp [Jkg] at hk2
           | succ d=>
            unfold Jkg at hk2;rw [hd] at hk2;cases td' <;> simp only at hk2 <;> first|(cases hk2; done)|(cases hk2; rfl)|(simp [Fm] at hrow)
          have px:=Jwg (P:=P) hi hd xs.toArray off (by simp; omega) hsz w;have py:=Jwg (P:=P) hi hd ys.toArray off (by simp; omega) hsz w;simp only [Op.eqFields,if_pos hname,hoff,Sem.run_bind,px,py,Result.andThen_ok];rw [<- hni,hn.1];rw [Sd d fl.type ks1 td' _ _ w hk1 hd x1 y1];simp only [Result.andThen_ok];have split:∀ l:List Value,l.drop off=(l.drop off).take ks1.length++l.drop (off+n):=fun l=>by
           rw [hn.1,<- eF,bB]
          have hsum:Yp (xs.drop off) (ys.drop off)=(Yp (List.take ks1.length (List.drop off xs)) (List.take ks1.length (List.drop off ys))&&Yp (xs.drop (off+n)) (ys.drop (off+n))):=by
           rw [<- Jf4 (by simp; omega),<- split xs,<- split ys]
          rw [hsum];cases hcc:Yp (List.take ks1.length (List.drop off xs)) (List.take ks1.length (List.drop off ys))
          ·simp
          ·simp [ih (off+n) ks2 w hr x2 y2]
        ·cases h1
       ·cases h1
    have:=key fs.toList 0 ks w h (by simpa using hx) (by simpa using hy)
    simpa using this
end
end PM
namespace PM
open Go Go.RowKit
def Kay(op:BinOp)(k:IntKind)(a b:Int):Option PV :=
 match op with
 | .add=>some (.int k (k.wrap (a+b)))
 | .sub=>some (.int k (k.wrap (a - b)))
 | .mul=>some (.int k (k.wrap (a * b)))
 | .quo=>if b=0 then none else some (.int k (k.wrap (a.tdiv b)))
 | .rem=>if b=0 then none else some (.int k (a.tmod b))
 | .eql=>some (.bool (decide (a=b)))
 | .neq=>some (.bool (!decide (a=b)))
 | .lss=>some (.bool (decide (a<b)))
 | .leq=>some (.bool (decide (a<=b)))
 | .gtr=>some (.bool (decide (b<a)))
 | .geq=>some (.bool (decide (b<=a)))
 | .and=>some (.int k (k.wrap ((BitVec.ofInt k.bits a &&& BitVec.ofInt k.bits b).toNat)))
 | .or=>some (.int k (k.wrap ((BitVec.ofInt k.bits a ||| BitVec.ofInt k.bits b).toNat)))
 | .xor=>some (.int k (k.wrap ((BitVec.ofInt k.bits a ^^^ BitVec.ofInt k.bits b).toNat)))
 | .andNot=>some (.int k (k.wrap ((BitVec.ofInt k.bits a &&& ~~~ BitVec.ofInt k.bits b).toNat)))
 | _=>none
def Jnl(op:BinOp)(k:IntKind)(a b:Int):Option PV :=
 if b<0 then none else
 match op with
 | .shl=>some (.int k (k.wrap (a * 2 ^ (min b.toNat k.bits))))
 | .shr=>some (.int k (a.fdiv (2 ^ (min b.toNat k.bits))))
 | _=>none
def Ki3(op:BinOp)(a b:ByteArray):Option PV :=
 match op with
 | .add=>if a.size+b.size<=9223372036854775807 then some (.str (a++b)) else none
 | .eql=>some (.bool (decide (a=b)))
 | .neq=>some (.bool (!decide (a=b)))
 | .lss=>some (.bool (Op.bytesLess a.toList b.toList))
 | .leq=>some (.bool (Op.bytesLess a.toList b.toList||decide (a=b)))
 | .gtr=>some (.bool (!(Op.bytesLess a.toList b.toList||decide (a=b))))
 | .geq=>some (.bool (!Op.bytesLess a.toList b.toList))
 | _=>none
def Khu(op:BinOp)(b:Bool):Option PV :=
 match op with
 | .eql=>some (.bool b)
 | .neq=>some (.bool (!b))
 | _=>none
def Joi(P:Program)(op:BinOp)(t:TypeId):PV->PV->Option PV
 | .int k a,.int k' b=>
  match op with
  | .shl=>Jnl .shl k a b
  | .shr=>Jnl .shr k a b
  | op=>if k=k' then Kay op k a b else none
 | .str a,.str b=>Ki3 op a b
 | .bool a,.bool b=>if Kfv P t then Khu op (a == b) else none
 | .agg xs,.agg ys=>
  match eqK P t with
  | some ks=>(peq ks xs ys).bind (Khu op)
  | none=>none
 | .lst _ _ _ xss,.nil=>if Rq P t=true/\op=.eql then some (.ub xss.isEmpty) else none
 | _,_=>none
section
variable {P:Program} {g:GG} {w:World}
theorem Rel.of1{p:PV}{v:Value}(h:Kk g p v):Rel g p v:=by
 cases p <;> first|exact h|exact h.elim
theorem Uz{k:IntKind}{n:Int}{v:Value}:Rel g (.int k n) v↔v=.int k n:=by simp [Rel,Ks,Kk,Jv]
theorem Wy{b:Bool}{v:Value}:Rel g (.bool b) v↔v=.bool b:=by simp [Rel,Ks,Kk,Jv]
theorem Jfq{s:ByteArray}{v:Value}:Rel g (.str s) v↔v=.string s:=by simp [Rel,Ks,Kk,Jv]
theorem Mh(a b:ByteArray):(a.toList == b.toList)=decide (a=b):=by
 rw [<- beq_toListBytes]
 by_cases h:a=b
 ·rw [decide_eq_true h,h];rw [beq_toListBytes]; simp
 ·rw [decide_eq_false h];rw [beq_toListBytes,ByteArray.toList_eq,ByteArray.toList_eq];have:¬ a.data.toList=b.data.toList:=fun e=>h (by cases a; cases b; simp only [ByteArray.mk.injEq]; exact Array.ext' e)
  simpa using this
theorem Jjh : ∀ {ks:List CK} {xs ys:List PV} {us vs:List Value} {b:Bool},peq ks xs ys=some b->Kg (Yr g) xs us->Kg (Yr g) ys vs ->
  Wb ks us=true/\Wb ks vs=true/\Yp us vs=b
 | [],xs,ys,us,vs,b,h,hx,hy=>by
  cases xs <;> cases ys <;> simp [peq] at h;subst h;rw [hx.nil_left,hy.nil_left];simp [Wb,Yp]
 | k::ks,[],ys,us,vs,b,h,hx,hy=>by cases k <;> cases ys <;> simp [peq] at h
 | k::ks,x::xs,[],us,vs,b,h,hx,hy=>by cases k <;> simp [peq] at h
 | k::ks,x::xs,y::ys,us,vs,b,h,hx,hy=>by
  obtain ⟨u,us',rfl,hu,hus⟩:=hx.cons_left;obtain ⟨v,vs',rfl,hv,hvs⟩:=hy.cons_left;cases k <;> cases x <;> cases y <;> simp only [peq] at h <;> try cases h
  case i k k1 a k2 c=>
   by_cases hk:k1=k/\k2=k
   ·rw [if_pos hk] at h;obtain ⟨rfl,rfl⟩:=hk;obtain ⟨b',hb',rfl⟩:=aD.1 h;obtain ⟨h1,h2,h3⟩:=Jjh hb' hus hvs;have eu:u=.int k2 a:=by simpa [Yr,Kk,Jv] using hu.1
    have ev:v=.int k2 c:=by simpa [Yr,Kk,Jv] using hv.1
    subst eu; subst ev;exact ⟨by simp [Wb,CK.fits,h1],by simp [Wb,CK.fits,h2],by simp only [Yp,Jgy,h3]; rfl⟩
   ·rw [if_neg hk] at h; cases h
  case b a c=>
   obtain ⟨b',hb',rfl⟩:=aD.1 h;obtain ⟨h1,h2,h3⟩:=Jjh hb' hus hvs;have eu:u=.bool a:=by simpa [Yr,Kk,Jv] using hu.1
   have ev:v=.bool c:=by simpa [Yr,Kk,Jv] using hv.1
   subst eu; subst ev;exact ⟨by simp [Wb,CK.fits,h1],by simp [Wb,CK.fits,h2],by simp [Yp,Jgy,h3]⟩
  case s a c=>
   obtain ⟨b',hb',rfl⟩:=aD.1 h;obtain ⟨h1,h2,h3⟩:=Jjh hb' hus hvs;have eu:u=.string a:=by simpa [Yr,Kk,Jv] using hu.1
   have ev:v=.string c:=by simpa [Yr,Kk,Jv] using hv.1
   subst eu; subst ev;exact ⟨by simp [Wb,CK.fits,h1],by simp [Wb,CK.fits,h2],by simp [Yp,Jgy,h3,Mh]⟩
theorem Kgt{d:Nat}{t:TypeId}{ks:List CK}(h:Jkg P d t=some ks):∃ td,P.underlying t=some td:=by
 cases d with
 | zero=>simp [Jkg] at h
 | succ d=>
  unfold Jkg at h;cases ht:P.underlying t with
  | none=>simp [ht] at h
  | some td=>exact ⟨td,rfl⟩
theorem Jxx{op:BinOp}{b:Bool}{r:PV}(h:Khu op b=some r):(op=.eql/\r=.bool b)\/(op=.neq/\r=.bool !b):=by
 cases op <;> simp [Khu] at h
 ·exact .inl ⟨rfl,h.symm⟩
 ·exact .inr ⟨rfl,h.symm⟩
theorem Jtf(a b:Int):(a == b)=decide (a=b):=by
 by_cases h:a=b <;> simp [h]
theorem Kcp{op:BinOp}{t:TypeId}{k:IntKind}{a b:Int}{r:PV}(h:Kay op k a b=some r) :
  ∃ z,(do pure (); binOp op t (.int k a) (.int k b):Sem Value).run P w=.ok z w/\Rel g r z:=by
 unfold Kay at h;split at h <;> first
  | (cases h; exact ⟨_,by simp only [binOp_add,Op.intArith]; rfl,Uz.2 rfl⟩)
  | (cases h; exact ⟨_,by simp only [binOp_sub,Op.intArith]; rfl,Uz.2 rfl⟩)
  | (cases h; exact ⟨_,by simp only [binOp_mul,Op.intArith]; rfl,Uz.2 rfl⟩)
  | (cases h; exact ⟨_,by simp only [binOp_eql]; rfl,Wy.2 (by rw [Jtf])⟩)
  | (cases h; exact ⟨_,by simp only [binOp_neq]; rfl,Wy.2 (by simp only [bne,Jtf])⟩)
  | (cases h; exact ⟨_,by simp only [binOp_lss]; rfl,Wy.2 rfl⟩)
  | (cases h; exact ⟨_,by simp only [binOp_leq]; rfl,Wy.2 rfl⟩)
  | (cases h; exact ⟨_,by simp only [binOp_gtr]; rfl,Wy.2 rfl⟩)
  | (cases h; exact ⟨_,by simp only [binOp_geq]; rfl,Wy.2 rfl⟩)
  | (cases h; exact ⟨_,by simp only [binOp_and,Op.intBits]; rfl,Uz.2 rfl⟩)
  | (cases h; exact ⟨_,by simp only [binOp_or,Op.intBits]; rfl,Uz.2 rfl⟩)
  | (cases h; exact ⟨_,by simp only [binOp_xor,Op.intBits]; rfl,Uz.2 rfl⟩)
  | (cases h; exact ⟨_,by simp only [binOp_andNot,Op.intBits]; rfl,Uz.2 rfl⟩)
  | (cases h; done)
  | skip
 ·by_cases hb:b=0
  ·rw [if_pos hb] at h; cases h
  ·rw [if_neg hb] at h; cases h;exact ⟨_,by simp only [binOp_quo,Op.intDiv,if_neg hb]; rfl,Uz.2 rfl⟩
 ·by_cases hb:b=0
  ·rw [if_pos hb] at h; cases h
  ·rw [if_neg hb] at h; cases h;exact ⟨_,by simp only [binOp_rem,Op.intDiv,if_neg hb]; rfl,Uz.2 rfl⟩
theorem Jfo(w:World)(d:Nat)(t e:TypeId)(a:Option Addr)(n c n' c':Nat)(h:P.underlying t=some (.slice e)):(Op.equalIn (d+1) t (.slice a n c) (.slice none n' c')).run P w=.ok a.isNone w:=by
 cases a <;> simp [Op.equalIn,run_underlying h]
theorem Sb(w:World)(t e:TypeId)(a:Option Addr)(n c n' c':Nat)(h:P.underlying t=some (.slice e)):(binOp .eql t (.slice a n c) (.slice none n' c')).run P w=.ok (.bool a.isNone) w:=by
 simp only [binOp];simp [Op.equal,Op.maxDepth,Jfo w 9999 t e a n c n' c' h]
theorem Kbz{op:BinOp}{t:TypeId}{x y:Operand}{p q r:PV}{u v:Value}(h:Joi P op t p q=some r)(hu:Rel g p u)(hv:Rel g q v) :
  ∃ z,(do eqGuard op t x y u v; binOp op t u v:Sem Value).run P w=.ok z w/\Rel g r z:=by
 cases p <;> cases q <;> simp only [Joi] at h <;> try cases h
 case int k a k' b=>
  rw [Uz] at hu hv;subst hu; subst hv;have hg:eqGuard op t x y (.int k a) (.int k' b)=pure ():=eqGuard_at_int op t x y _ k a;rw [hg]
  by_cases hs:op=.shl\/op=.shr
  ·have hsh:Jnl op k a b=some r:=by rcases hs with rfl|rfl <;> exact h
   unfold Jnl at hsh
   by_cases hb:b<0
   ·rw [if_pos hb] at hsh; cases hsh
   ·rw [if_neg hb] at hsh;rcases hs with rfl|rfl <;> simp only [aP] at hsh <;> subst hsh <;>
     exact ⟨_,by simp [binOp,Op.shift,hb],Uz.2 rfl⟩
  ·have hsh:(if k=k' then Kay op k a b else none)=some r:=by
    cases op <;> first|exact h|exact absurd (.inl rfl) hs|exact absurd (.inr rfl) hs
   by_cases hk:k=k'
   ·subst hk;rw [if_pos rfl] at hsh;exact Kcp hsh
   ·rw [if_neg hk] at hsh; cases hsh
 case bool a b=>
  rw [Wy] at hu hv;subst hu; subst hv;have hg:eqGuard op t x y (.bool a) (.bool b)=pure ():=eqGuard_at_bool op t x y _ a;rw [hg]
  by_cases hb:Kfv P t=true
  ·rw [if_pos hb] at h;have ht:P.underlying t=some .bool:=by
    unfold Kfv at hb;split at hb
    ·assumption
    ·cases hb
   rcases Jxx h with ⟨rfl,rfl⟩|⟨rfl,rfl⟩
   ·exact ⟨_,by simp only [binOp]; simp [Op.equal,Op.maxDepth,run_equalIn_bool' w 9999 t a b ht],Wy.2 rfl⟩
   ·exact ⟨_,by simp only [binOp]; simp [Op.equal,Op.maxDepth,run_equalIn_bool' w 9999 t a b ht],Wy.2 rfl⟩
  ·rw [if_neg hb] at h; cases h
 case str a b=>
  rw [Jfq] at hu hv;subst hu; subst hv;have hg:eqGuard op t x y (.string a) (.string b)=pure ():=eqGuard_at_string op t x y _ a;rw [hg];unfold Ki3 at h;split at h <;> first
   | (cases h; exact ⟨_,by simp only [binOp_string_eql]; rfl,Wy.2 (by rw [Mh])⟩)
   | (cases h; exact ⟨_,by simp only [binOp_string_neq]; rfl,Wy.2 (by rw [Mh])⟩)
   | (cases h; exact ⟨_,by simp only [binOp_string_lss]; rfl,Wy.2 rfl⟩)
   | (cases h; exact ⟨_,by simp only [binOp_string_leq]; rfl,Wy.2 (by rw [Mh])⟩)
   | (cases h; exact ⟨_,by simp only [binOp_string_gtr]; rfl,Wy.2 (by rw [Mh])⟩)
   | (cases h; exact ⟨_,by simp only [binOp_string_geq]; rfl,Wy.2 rfl⟩)
   | (cases h; done)
   | skip
  ·by_cases hs:a.size+b.size<=9223372036854775807
   ·rw [if_pos hs] at h; cases h;have hs':¬ (9223372036854775807<((a.size:Int)+(b.size:Int))):=by omega
    exact ⟨_,by simp [binOp,Op.stringOp,hs'],Jfq.2 rfl⟩
   ·rw [if_neg hs] at h; cases h
 case agg xs ys=>
  simp only [Rel,Ks] at hu hv;obtain ⟨us,rfl,hus⟩:=hu;obtain ⟨vs,rfl,hvs⟩:=hv;cases hk:eqK P t with
  | none=>simp [hk] at h
  | some ks=>
   simp only [hk] at h;obtain ⟨b,hb,hr⟩:=bF.1 h;obtain ⟨h1,h2,h3⟩:=Jjh hb hus hvs;unfold eqK at hk
   by_cases hgt:(P.eqGuardType P.depth t || !Jt3 P t)=true
   ·rw [if_pos hgt] at hk; cases hk
   ·rw [if_neg hgt] at hk;simp only [bP,bL,not_or] at hgt;have hge:=run_eqGuard_agg (P:=P) w op t x y us vs (by simpa using hgt.1);obtain ⟨td,htd⟩:=Kgt hk;have hst:∃ fs,td=.struct fs:=by
     have:=hgt.2;unfold Jt3 at this;rw [htd] at this;cases td <;> first|exact ⟨_,rfl⟩|(simp at this)
    obtain ⟨fs,rfl⟩:=hst;have he:=Sd (P:=P) 10000 t ks _ us.toList vs.toList w hk htd h1 h2;have hw:∀ l:Array Value,Jfi (.struct fs) l.toList=.agg l:=fun l=>by simp [Jfi,Fm]
    rw [hw,hw,h3] at he;rcases Jxx hr with ⟨rfl,rfl⟩|⟨rfl,rfl⟩
    ·exact ⟨.bool b,by simp [hge,run_eql_struct,he],Wy.2 rfl⟩
    ·exact ⟨.bool !b,by simp [hge,run_neq_struct,he],Wy.2 rfl⟩
 case lst o k b xss=>
  by_cases hc:Rq P t=true/\op=.eql
  ·rw [if_pos hc] at h;cases h;obtain ⟨hs,rfl⟩:=hc;have ht:∃ e,P.underlying t=some (.slice e):=by
    unfold Rq at hs;split at hs
    ·exact ⟨_,by assumption⟩
    ·cases hs
   obtain ⟨e,ht⟩:=ht;have hv:v=.slice none 0 0:=by simpa [Rel,Ks,Kk,Jv] using hv
   subst hv;have hu':Jv g.S g.w (.lst (match o with|.own _=>.frozen|o=>o) k b xss) u:=by
    cases o <;> first|exact hu|exact hu.1
   simp only [Jv] at hu';rcases hu'.2.2.2 with ⟨rfl|⟨_,rfl⟩,rfl⟩|⟨B,off,cap,rfl,_⟩
   ·exact ⟨.bool true,by simp [eqGuard,Sb _ _ _ _ _ _ _ _ ht],by simp [Rel,Ks,Kk]⟩
   ·exact ⟨.bool false,by simp [eqGuard,Sb _ _ _ _ _ _ _ _ ht],by simp [Rel,Ks,Kk]⟩
   ·exact ⟨.bool false,by simp [eqGuard,Sb _ _ _ _ _ _ _ _ ht],by simp [Rel,Ks,Kk]⟩
  ·rw [if_neg hc] at h; cases h
end
end PM
