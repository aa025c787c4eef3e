import Derived.Test.YtfpoeepcomnjhaaGreatDoorPmV
import Derived.Test.YtfpoeepcomnjhaaGreatDoorRows
import Derived.ChangeArms
import Derived.ChangeShapes
import Derived.OpenShut
import Derived.Lib.LaidTab
import Derived.ChangeSame
import Derived.Carry
import Derived.MakeChecks
import Derived.FnData
/-
 THE FRAME, A: what the arguments of a statement read as, as plain Lean values.
-/
namespace PM
open Go Go.RowKit Go.ChangeShapes Go.WideShapes Go.Proofs.YtfpoeepcomnjhaaGreatDoor
def Bk(w:World):Qa:=fun B _=>B<w.heap.size
class Dt (α:Type) where
 dat:{H:Type}->α->DataW H->Prop
 siz:α->Nat
 rng:α->Prop
instance : Dt Int:=⟨fun n d=>d=.lit (.int .i64 n),fun _=>1,fun n=>(Lit.int .i64 n).wf=true⟩
instance : Dt Bool:=⟨fun b d=>d=.lit (.bool b),fun _=>1,fun _=>True⟩
instance : Dt ByteArray:=⟨fun s d=>d=.lit (.string s.data.toList),fun s=>s.size+1,fun _=>True⟩
structure U8 where
 n:Int
instance : Enc U8:=⟨1,1,fun x=>.int .u8 x.n⟩
instance : Dt U8:=⟨fun n d=>d=.lit (.int .u8 n.n),fun _=>1,fun n=>(Lit.int .u8 n.n).wf=true⟩
structure U16 where
 n:Int
instance : Enc U16:=⟨1,2,fun x=>.int .u16 x.n⟩
instance : Dt U16:=⟨fun n d=>d=.lit (.int .u16 n.n),fun _=>1,fun n=>(Lit.int .u16 n.n).wf=true⟩
def Jhr{α:Type}[Dt α]:List α->Nat
 | []=>0
 | x::xs=>Dt.siz x+Jhr xs
instance {α:Type}[Dt α]:Dt (List α):=⟨fun l d=>(l=[]/\d=.nil)\/∃ es sp,d=.slice es sp/\Kg Dt.dat l es,fun l=>Jhr l+1,fun l=>∀ (i:Nat) (x:α),l[i]? = some x->Dt.rng x⟩
class DtL (β:Type) where
 dts:{H:Type}->β->List (DataW H)->Prop
 szs:β->Nat
 cells:β->List PV
 rngs:β->Prop
instance : DtL Unit:=⟨fun _ ds=>ds=[],fun _=>0,fun _=>[],fun _=>True⟩
instance {α β:Type}[Enc α][Dt α][DtL β]:DtL (α×β):=⟨fun b ds=>∃ d r,ds=d::r/\Dt.dat b.1 d/\DtL.dts b.2 r,fun b=>Dt.siz b.1+DtL.szs b.2,fun b=>cellsOf b.1++DtL.cells b.2,fun b=>Dt.rng b.1/\DtL.rngs b.2⟩
structure Jxt (F:Nat->Prop) (P:Program) (t:TypeId) (α:Type) (sl:Bool) [Enc α] [Dt α]:Prop where
 cells:P.cellsOf t=Enc.k α
 bytes:P.bytesOf t=Enc.b α
 pos:Enc.k α≠0
 bpos:Enc.b α≠0
 len:∀ a:α,(cellsOf a).length=Enc.k α
 one:∀ a:α,(cellsOf a).all PV.one=true
 bulk:∀ {H:Type} (a:α) (d:DataW H),Dt.dat a d->Dt.siz a<=Rows.uptoBulk d
 inj:∀ {H:Type} (a b:α) (d:DataW H),Dt.dat a d->Dt.dat b d->a=b
 rd:∀ {H:Type} {enc:TypeId×Value->H} {w:World} {sp:Nat->Bool} {held:Bool} {fuel:Nat} {cs:List Value} {x:DataW H×List MemPlace},F fuel->DataW.trod enc P w 0 sp held fuel t cs=some x ->
  (∀ n∈DataW.weights P t x.1,n<=reachBytes)->(∀ b,sp b=true)->∃ a:α,Dt.dat a x.1/\Dt.rng a/\Kg (Jv (Bk w) w) (cellsOf a) cs
 val:∀ {w:World} {b:Nat} {v:Value} {a:α},Value.okWide P w .any b t v->Kg (Jv (Bk w) w) (cellsOf a) v.cells.toList->Jv (Bk w) w (Enc.pv a) v
abbrev Dh(P:Program)(t:TypeId)(α:Type)(sl:Bool)[Enc α][Dt α]:Prop:=Jxt (fun _=>True) P t α sl
section
variable {P:Program} {t:TypeId}
theorem Jgj{R:PV->Value->Prop}{p:PV}{v:Value}(h:R p v):Kg R [p] [v]:=.cons h .nil
theorem Jwp{d:TypeDesc}(hd:P.underlying t=some d)(hn:∀ fs,d≠.struct fs)(hn2:∀ n e,d≠.array n e){w:World}{b:Nat}{v:Value}(h:Value.okWide P w .any b t v):Cell.okWide P w .any b t v:=by
 unfold Value.okWide at h;split at h
 ·rename_i e; rw [hd] at e; cases e; exact absurd rfl (hn _)
 ·rename_i e; rw [hd] at e; cases e; exact absurd rfl (hn2 _ _)
 ·exact h
theorem Kj5(h:P.underlying t=some (.int .i64))(hc:(P.cellsOf t,P.bytesOf t)=(1,8)):Dh P t Int false where
 cells:=(bR hc).1
 bytes:=(bR hc).2
 pos:=by decide
 bpos:=by decide
 len:=fun _=>rfl
 one:=fun _=>rfl
 bulk:=fun a d h=>by cases h; exact aJ _
 inj:=fun a b d h1 h2=>by
  have h1:d=_:=h1;have h2:d=_:=h2;rw [h1] at h2; simpa using h2
 rd:=fun _ hr _ _=>by
  obtain ⟨n,rfl,rfl,hwf⟩:=DataW.trod_int h hr;exact ⟨n,rfl,hwf,Jgj (by show Jv _ _ (.int .i64 n) _; simp only [Jv])⟩
 val:=fun {w b v a} hv hr=>by
  obtain ⟨n,rfl⟩:=okWide_int h hv;exact hr.head
theorem Khi(h:P.underlying t=some .bool)(hc:(P.cellsOf t,P.bytesOf t)=(1,1)):Dh P t Bool false where
 cells:=(bR hc).1
 bytes:=(bR hc).2
 pos:=by decide
 bpos:=by decide
 len:=fun _=>rfl
 one:=fun _=>rfl
 bulk:=fun a d h=>by cases h; exact aJ _
 inj:=fun a b d h1 h2=>by
  have h1:d=_:=h1;have h2:d=_:=h2;rw [h1] at h2; simpa using h2
 rd:=fun _ hr _ _=>by
  obtain ⟨n,rfl,rfl⟩:=DataW.trod_bool h hr;exact ⟨n,rfl,trivial,Jgj (by show Jv _ _ (.bool n) _; simp only [Jv])⟩
 val:=fun {w b v a} hv hr=>by
  obtain ⟨n,rfl⟩:=okWide_bool h hv;exact hr.head
theorem Jzq{w:World}{b:Nat}{v:Value}(h:P.underlying t=some .string)(hv:Value.okWide P w .any b t v):∃ s,v=.string s:=by
 have:=Jwp h (fun _=>by simp) (fun _ _=>by simp) hv;unfold Cell.okWide at this;rw [h] at this;cases v <;> simp [Cell.ok,h] at this;exact ⟨_,rfl⟩
theorem Kk8(h:P.underlying t=some .string)(hc:(P.cellsOf t,P.bytesOf t)=(1,16)):Dh P t ByteArray false where
 cells:=(bR hc).1
 bytes:=(bR hc).2
 pos:=by decide
 bpos:=by decide
 len:=fun _=>rfl
 one:=fun _=>rfl
 bulk:=fun a d h=>by
  cases h;show a.size+1<=a.data.toList.length+1;rw [bJ]; exact aJ _
 inj:=fun a b d h1 h2=>by
  have h1:d=_:=h1;have h2:d=_:=h2;rw [h1] at h2;have h3:a.data.toList=b.data.toList:=by simpa using h2
  cases a; cases b;exact congrArg ByteArray.mk (cM.1 h3)
 rd:=fun _ hr _ _=>by
  obtain ⟨n,rfl,rfl,_⟩:=DataW.trod_string h hr;exact ⟨n,rfl,trivial,Jgj (by show Jv _ _ (.str n) _; simp only [Jv])⟩
 val:=fun {w b v a} hv hr=>by
  obtain ⟨n,rfl⟩:=Jzq h hv;exact hr.head
theorem Jwd{α:Type}[Dt α]{H:Type}(hb:∀ (a:α) (d:DataW H),Dt.dat a d->Dt.siz a<=Rows.uptoBulk d):∀ (l:List α) (es:List (DataW H)),Kg Dt.dat l es->Jhr l<=Rows.uptoBulkAll es
 | [],es,h=>by rw [h.nil_left]; exact aJ _
 | x::xs,es,h=>by
  obtain ⟨e,es',rfl,h1,h2⟩:=h.cons_left;have:=Jwd hb xs es' h2;have:=hb x e h1;simp only [Jhr,Rows.uptoBulkAll]; omega
theorem Jwr{α:Type}[Dt α]{H:Type}(hi:∀ (a b:α) (d:DataW H),Dt.dat a d->Dt.dat b d->a=b):∀ (l m:List α) (es:List (DataW H)),Kg Dt.dat l es->Kg Dt.dat m es->l=m
 | [],[],_,_,_=>rfl
 | [],_::_,es,h1,h2=>by rw [h1.nil_left] at h2; exact absurd h2.1 sG
 | _::_,[],es,h1,h2=>by rw [h2.nil_left] at h1; exact absurd h1.1 sG
 | x::xs,y::ys,es,h1,h2=>by
  obtain ⟨e,es',rfl,h3,h4⟩:=h1.cons_left;rw [hi x y e h3 h2.head,Jwr hi xs ys es' h4 h2.tail]
theorem Jca{H:Type}{e:TypeId}:∀ {l:List (DataW H)} {d:DataW H} {n:Nat},d∈l->n∈DataW.weights P e d->n∈DataW.weightsAll P e l
 | [],_,_,h,_=>by cases h
 | x::xs,d,n,h,hn=>by
  rw [DataW.weightsAll,aY];rcases bD.1 h with rfl|h
  ·exact .inl hn
  ·exact .inr (Jca h hn)
theorem Jxq{w:World}{a:Addr}{n:Nat}{vs:List Value}(h:w.cells? 0 a n=some vs):vs.length=n/\∀ i v,vs[i]? = some v->w.cell? (a.add i)=some v:=by
 unfold World.cells? at h;rw [if_pos (dO _)] at h;have h1:=Lib.mapM_length h;refine ⟨by simpa using h1,fun i v hv=>?_⟩;have hi:i<n:=by
  have:=(aG.1 hv).1;rw [h1] at this; simpa using this
 obtain ⟨b,hb,hf⟩:=Lib.mapM_at h i i (by simp [hi]);rw [hb] at hv; cases hv;exact hf
theorem Ji5{w:World}{a:Addr}{v:Value}(h:w.cell? a=some v):a.block<w.heap.size/\a.spot=none:=by
 unfold World.cell? at h;split at h
 ·rename_i hh;refine ⟨(dX.1 hh).1, ?_⟩;split at h
  ·cases h
  ·rename_i hs; simpa using hs
 ·cases h
theorem Fh{F G:Nat->Prop}{e:TypeId}{α:Type}[Enc α][Dt α]{s:Bool}(he:Jxt F P e α s)(h:P.underlying t=some (.slice e))(hc:(P.cellsOf t,P.bytesOf t)=(1,24))(hFG:∀ n,G (n+1)->F n:=by exact fun _ _=>trivial):Jxt G P t (List α) true where
 cells:=(bR hc).1
 bytes:=(bR hc).2
 pos:=by show (1:Nat)≠0; decide
 bpos:=by show (24:Nat)≠0; decide
 len:=fun _=>rfl
 one:=fun _=>rfl
 bulk:=fun a d hd=>by
  rcases hd with ⟨rfl,rfl⟩|⟨es,sp,rfl,h2⟩
  ·exact aJ _
  ·have:=Jwd he.bulk a es h2;show Jhr a+1<=Rows.uptoBulkAll es+Rows.uptoBulkAll sp+1;omega
 inj:=fun a b d h1 h2=>by
  rcases h1 with ⟨rfl,rfl⟩|⟨es,sp,rfl,h1⟩ <;> rcases h2 with ⟨rfl,e⟩|⟨es',sp',e,h2⟩ <;> first|rfl|cases e
  exact Jwr he.inj a b es h1 h2
 rd:=fun {H enc w sp held fuel cs x} hG hr hw hs=>by
  rcases DataW.trod_slice h hr with ⟨rfl,rfl⟩|⟨a,len,cap,elems,rest,n,rfl,rfl,rfl,_,hlc,hcm,hel,hel2,hel3,_⟩
  ·exact ⟨[],.inl ⟨rfl,rfl⟩,fun i x hx=>by simp at hx,Jgj (by show Jv _ _ (.lst .frozen _ _ []) _; simp only [Jv,aF]; exact ⟨by omega,by omega,.inl trivial,.inl ⟨.inl rfl,trivial⟩⟩)⟩
  ·simp only [DataW.weights,h] at hw;have hex:∀ i,i<len->∃ (vs:List Value) (y:DataW H×List MemPlace) (b:α),elems[i]? = some y/\w.cells? 0 (a.add (i * P.cellsOf e)) (P.cellsOf e)=some vs/\Dt.dat b y.1/\Dt.rng b/\Kg (Jv (Bk w) w) (cellsOf b) vs:=by
    intro i hi;have h1:=hel2 i hi;have h2:i<elems.length:=by omega
    rw [aB h2] at h1;obtain ⟨vs,h3,h4⟩:=bF.1 h1;obtain ⟨b,h5,h7,h6⟩:=he.rd (hFG _ hG) h4 (fun m hm=>hw m (eA _ (eV _ (Jca (bN.2 ⟨_,List.getElem_mem h2,rfl⟩) hm)))) hs;exact ⟨vs,_,b,aB h2,h3,h5,h7,h6⟩
   -- the list of the values
   have hlist:∀ m,m<=len->∃ l:List α,l.length=m/\∀ i b,l[i]? = some b->∃ (vs:List Value) (y:DataW H×List MemPlace),elems[i]? = some y/\w.cells? 0 (a.add (i * P.cellsOf e)) (P.cellsOf e)=some vs/\Dt.dat b y.1/\Dt.rng b/\Kg (Jv (Bk w) w) (cellsOf b) vs:=by
    intro m;induction m with
    | zero=>intro _; exact ⟨[],rfl,fun i b hb=>by simp at hb⟩
    | succ m ih=>
     intro hm;obtain ⟨l,hl,hq⟩:=ih oG;obtain ⟨vs,y,b,h1,h2,h3,h4⟩:=hex m oG;refine ⟨l++[b],by simp [hl],fun i c hc=>?_⟩;rw [aU] at hc;split at hc
     ·exact hq i c hc
     ·rename_i hi;have:i=m:=by
       have:=(aG.1 hc).1;simp at this; omega
      subst this;rw [hl] at hc;simp at hc;subst hc;exact ⟨vs,y,h1,h2,h3,h4⟩
   obtain ⟨l,hl,hq⟩:=hlist len (aJ _);refine ⟨l,.inr ⟨_,_,rfl,⟨by simp [hl,hel],fun i b d hb hd=>?_⟩⟩,fun i b hb=>(by obtain ⟨_,_,_,_,_,h7,_⟩:=hq i b hb; exact h7),Jgj ?_⟩
   ·obtain ⟨vs,y,h1,_,h3,_⟩:=hq i b hb;rw [aN,h1] at hd;cases hd;exact h3
   ·show Jv (Bk w) w (Ji .frozen l) _;unfold Ji;simp only [Jv,aV];have hb:=hw _ (List.mem_cons_self ..);simp only [aV,reachBytes,hel] at hb;rw [he.bytes] at hb;have hbp:=Nat.pos_of_ne_zero he.bpos;have hle:len<=len * Enc.b α:=Nat.le_mul_of_pos_right _ hbp;have hm:len * Enc.b α<=(len+rest.length) * Enc.b α:=bV _ oG;have first:∀ {vs:List Value},w.cells? 0 (a.add (0 * P.cellsOf e)) (P.cellsOf e)=some vs->a.spot=none:=by
     intro vs h2;obtain ⟨h3,h4⟩:=Jxq h2;have hp:0<P.cellsOf e:=by rw [he.cells]; exact Nat.pos_of_ne_zero he.pos
     obtain ⟨v,hv⟩:∃ v,vs[0]? = some v:=⟨_,aB oG⟩
     have:=(Ji5 (h4 0 v hv)).2
     simpa [Addr.add] using this
    by_cases hcap:cap=0
    ·have hlen:len=0:=by omega
     refine ⟨by rw [hl]; omega,by omega,.inl trivial,.inl ⟨.inr ⟨a,by rw [hlen,hcap]⟩, ?_⟩⟩;have:l=[]:=aO oG;rw [this]; rfl
    have hspot:a.spot=none:=by
     by_cases h0:0<len
     ·obtain ⟨vs,_,_,_,h2,_⟩:=hex 0 h0;exact first h2
     ·obtain ⟨hrl,hre⟩:=hel3 (hs _);have h1:=hre 0 oG;rw [aB oG] at h1;obtain ⟨vs,h2,_⟩:=bF.1 h1;have hl0:len=0:=by omega
      rw [hl0] at h2;exact first h2
    refine ⟨by rw [hl]; omega,by omega,.inl trivial,.inr ⟨a.block,a.off,cap, ?_,by omega,fun e=>(by cases e), ?_⟩⟩
    ·rw [hl];cases a;simp only at hspot;subst hspot
     rfl
    ·rw [Jcj];intro i css hi;rw [aN] at hi;obtain ⟨b,hb',rfl⟩:=aD.1 hi;obtain ⟨vs,y,_,h2,_,_,h4⟩:=hq i b hb';refine ⟨he.len b, ?_⟩;rw [Yd];intro j c hj;obtain ⟨hlen,hat⟩:=Jxq h2;obtain ⟨v,hv,hrel⟩:=h4.right hj;have Oy:=hat j v hv;have hadd:(a.add (i * P.cellsOf e)).add j=⟨a.block,a.off+i * Enc.k α+j,none⟩:=by
      rw [he.cells];cases a;simp only at hspot;subst hspot;unfold Addr.add
      (repeat' split) <;> simp_all <;> omega
     rw [hadd] at Oy;exact ⟨aK.1 (he.one b) c (aC hj),(Ji5 Oy).1,v,Oy,hrel⟩
 val:=fun {w b v a} hv hr=>by
  have:=Jwp h (fun _=>by simp) (fun _ _=>by simp) hv;unfold Cell.okWide at this;rw [h] at this;cases v <;> simp [Cell.ok,h] at this;exact hr.head
end
end PM
namespace PM
open Go Go.RowKit Go.ChangeShapes Go.WideShapes Go.Proofs.YtfpoeepcomnjhaaGreatDoor
structure Jk4 (G:Nat->Prop) (P:Program) (fs:List Field) (off n:Nat) (β:Type) (sl:Bool) [DtL β]:Prop where
 size:∀ b:β,off+(DtL.cells b).length=n
 one:∀ b:β,(DtL.cells b).all PV.one=true
 bulk:∀ {H:Type} (b:β) (ds:List (DataW H)),DtL.dts b ds->DtL.szs b<=Rows.uptoBulkAll ds
 inj:∀ {H:Type} (a b:β) (ds:List (DataW H)),DtL.dts a ds->DtL.dts b ds->a=b
 rd:∀ {H:Type} {enc:TypeId×Value->H} {w:World} {sp:Nat->Bool} {held:Bool} {fuel:Nat} {cs:List Value} {ys:List (DataW H×List MemPlace)},G fuel->ys.length=fs.length ->
  (∀ (i:Nat) (f:Field),fs[i]? = some f->DataW.trod enc P w 0 sp held fuel f.type ((cs.drop f.offset).take (P.cellsOf f.type))=ys[i]?)->cs.length=n ->
  (∀ m∈DataW.weightsEach P (fs.map (·.type)) (ys.map (·.1)),m<=reachBytes)->(∀ b,sp b=true)->∃ b:β,DtL.dts b (ys.map (·.1))/\DtL.rngs b/\Kg (Jv (Bk w) w) (DtL.cells b) (cs.drop off)
abbrev Kme(P:Program)(fs:List Field)(off n:Nat)(β:Type)(sl:Bool)[DtL β]:Prop:=Jk4 (fun _=>True) P fs off n β sl
section
variable {P:Program}
theorem Zx{G:Nat->Prop}(n:Nat):Jk4 G P [] n n Unit false where
 size:=fun _=>rfl
 one:=fun _=>rfl
 bulk:=fun b ds h=>by cases h; exact aJ _
 inj:=fun _ _ _ _ _=>rfl
 rd:=fun {H enc w sp held fuel cs ys} _ hy _ hc _ _=>by
  have:ys=[]:=aO hy;subst this;exact ⟨(),rfl,trivial,by rw [cZ oG]; exact Kg.nil⟩
theorem Kc3{G:Nat->Prop}{f:Field}{fs:List Field}{off n:Nat}{α β:Type}{s1 s2:Bool}[Enc α][Dt α][DtL β](h:Jxt G P f.type α s1)(ho:f.offset=off)(F:Jk4 G P fs (off+Enc.k α) n β s2):Jk4 G P (f::fs) off n (α×β) (s1||s2) where
 size:=fun b=>by
  have h1:=F.size b.2;have h2:=h.len b.1;show off+(cellsOf b.1++DtL.cells b.2).length=n;rw [aH]; omega
 one:=fun b=>by
  show (cellsOf b.1++DtL.cells b.2).all PV.one=true;rw [List.all_append,h.one,F.one]; rfl
 bulk:=fun b ds hd=>by
  obtain ⟨d,r,rfl,h1,h2⟩:=hd;have:=h.bulk b.1 d h1;have:=F.bulk b.2 r h2;show Dt.siz b.1+DtL.szs b.2<=Rows.uptoBulk d+Rows.uptoBulkAll r;omega
 inj:=fun a b ds h1 h2=>by
  obtain ⟨d,r,rfl,h3,h4⟩:=h1;obtain ⟨d',r',e,h5,h6⟩:=h2;cases e;exact Prod.ext (h.inj _ _ d h3 h5) (F.inj _ _ r h4 h6)
 rd:=fun {H enc w sp held fuel cs ys} hG hy hr hc hw hs=>by
  match ys,hy with
  | y::ys,hy=>
   have h0:=hr 0 f rfl;simp only [eL] at h0;simp only [bT,DataW.weightsEach] at hw;obtain ⟨a,ha1,ha3,ha2⟩:=h.rd hG h0 (fun m hm=>hw m (eV _ hm)) hs;obtain ⟨b,hb1,hb3,hb2⟩:=F.rd (ys:=ys) hG (by simpa using hy) (fun i g hg=>by have:=hr (i+1) g (by simpa using hg); simpa using this) hc (fun m hm=>hw m (List.mem_append_right _ hm)) hs;refine ⟨(a,b),⟨y.1,ys.map (·.1),rfl,ha1,hb1⟩,⟨ha3,hb3⟩, ?_⟩;have e:cs.drop off=(cs.drop f.offset).take (P.cellsOf f.type)++cs.drop (off+Enc.k α):=by
    rw [ho,h.cells,<- eF,bB]
   rw [e];exact ha2.append hb2
theorem Jw{G:Nat->Prop}{f:Field}{fs:List Field}{off off' n:Nat}{α β:Type}{s1 s2 sl:Bool}[Enc α][Dt α][DtL β](h:Jxt G P f.type α s1)(ho:(f.offset,off+Enc.k α,s1||s2)=(off,off',sl))(F:Jk4 G P fs off' n β s2):Jk4 G P (f::fs) off n (α×β) sl:=by
 have h1:=(bR ho).1;have h2:=(bR (bR ho).2).1;have h3:=(bR (bR ho).2).2;subst h2; subst h3;exact Kc3 h h1 F
abbrev Jdg{S β:Type}[DtL β](un:S->β):Dt S:=⟨fun a d=>∃ ds,d=.agg ds/\DtL.dts (un a) ds,fun a=>DtL.szs (un a)+1,fun a=>DtL.rngs (un a)⟩
theorem Wa{t:TypeId}{fs:Array Field}{k b:Nat}{S β:Type}{sl:Bool}[Enc S][DtL β](un:S->β)(mk:β->S)(h:P.underlying t=some (.struct fs))(hc:(P.cellsOf t,P.bytesOf t)=(k,b))(he:(Enc.k S,Enc.b S)=(k,b))(hk:k≠0/\b≠0)(F:Kme P fs.toList 0 k β sl)(hcells:∀ x,cellsOf x=DtL.cells (un x))(hpv:∀ x:S,Enc.pv x=.agg (cellsOf x))(hum:∀ y,un (mk y)=y)(hmu:∀ x,mk (un x)=x):@Dh P t S sl _ (Jdg un) :=
 letI:Dt S:=Jdg un
 {cells:=by rw [(bR hc).1,(bR he).1]
  bytes:=by rw [(bR hc).2,(bR he).2]
  pos:=by rw [(bR he).1]; exact hk.1
  bpos:=by rw [(bR he).2]; exact hk.2
  len:=fun a=>by
   have:=F.size (un a);rw [hcells,(bR he).1]; omega
  one:=fun a=>by rw [hcells]; exact F.one _
  bulk:=fun a d hd=>by
   obtain ⟨ds,rfl,h1⟩:=hd;have:=F.bulk _ _ h1;show DtL.szs (un a)+1<=Rows.uptoBulkAll ds+1;omega
  inj:=fun a b d h1 h2=>by
   obtain ⟨ds,rfl,h1⟩:=h1;obtain ⟨ds',e,h2⟩:=h2;cases e;rw [<- hmu a,<- hmu b,F.inj _ _ ds h1 h2]
  rd:=fun {H enc w sp held fuel cs x} _ hr hw hs=>by
   obtain ⟨xs,n,rfl,rfl,hlen,hx,hf⟩:=DataW.trod_struct h hr;simp only [DataW.weights,h] at hw;obtain ⟨y,h1,h3,h2⟩:=F.rd (ys:=xs) trivial (by simpa using hx) (fun i f hi=>hf i f (by simpa using hi)) (by rw [hlen]; exact (bR hc).1) hw hs;refine ⟨mk y,⟨xs.map (·.1),rfl,by rw [hum]; exact h1⟩,(by show DtL.rngs (un (mk y)); rw [hum]; exact h3), ?_⟩;rw [hcells,hum]
   simpa using h2
  val:=fun {w b v a} hv hr=>by
   unfold Value.okWide at hv;rw [h] at hv;obtain ⟨cs,rfl,_⟩:=hv;rw [hpv];simp only [Jv];exact ⟨cs,rfl,(Wj _ _).2 hr⟩ }
structure Jon (P:Program) (ts:List TypeId) (β:Type) [DtL β] (pvs:β->List PV):Prop where
 bulk:∀ {H:Type} (b:β) (ds:List (DataW H)),DtL.dts b ds->DtL.szs b<=Rows.uptoBulkAll ds
 rd:∀ {H:Type} {enc:TypeId×Value->H} {w:World} {sp:Nat->Bool} {held:Bool} {base:Nat} {vs:List Value} {ds:List (DataW H)} {ps:List MemPlace},DataW.TrodAll enc P w 0 sp held ts vs ds ps->(∀ b,sp b=true) ->
  (∀ (j:Nat) (t:TypeId) (v:Value),ts[j]? = some t->vs[j]? = some v->Value.okWide P w .any base t v)->(∀ m∈DataW.weightsEach P ts ds,m<=reachBytes) ->
  ∃ b:β,DtL.dts b ds/\DtL.rngs b/\ds.length=ts.length/\Kg (Jv (Bk w) w) (pvs b) vs
theorem Kga : Jon P [] Unit (fun _=>[]) where
 bulk:=fun b ds h=>by cases h; exact aJ _
 rd:=fun h _ _ _=>by
  obtain ⟨rfl,rfl,rfl⟩:=trodAll_nil h;exact ⟨(),rfl,trivial,rfl,Kg.nil⟩
theorem Jsd{t:TypeId}{ts:List TypeId}{α β:Type}{sl:Bool}[Enc α][Dt α][DtL β]{pvs:β->List PV}(h:Dh P t α sl)(A:Jon P ts β pvs):Jon P (t::ts) (α×β) (fun b=>Enc.pv b.1::pvs b.2) where
 bulk:=fun b ds hd=>by
  obtain ⟨d,r,rfl,h1,h2⟩:=hd;have:=h.bulk b.1 d h1;have:=A.bulk b.2 r h2;show Dt.siz b.1+DtL.szs b.2<=Rows.uptoBulk d+Rows.uptoBulkAll r;omega
 rd:=fun {H enc w sp held base vs ds ps} hr hs hv hw=>by
  obtain ⟨v,vs',d,ds',p,q,rfl,rfl,rfl,h1,h2⟩:=trodAll_cons hr;have hok:=hv 0 t v rfl rfl;simp only [DataW.weightsEach] at hw;obtain ⟨fuel,hf⟩:=h1;obtain ⟨a,ha1,ha3,ha2⟩:=h.rd trivial hf (fun m hm=>hw m (eV _ hm)) hs;obtain ⟨b,hb1,hb4,hb2,hb3⟩:=A.rd h2 hs (fun j t' v' ht hv'=>hv (j+1) t' v' (by simpa using ht) (by simpa using hv')) (fun m hm=>hw m (List.mem_append_right _ hm));exact ⟨(a,b),⟨d,ds',rfl,ha1,hb1⟩,⟨ha3,hb4⟩,by simp [hb2],.cons (h.val hok ha2) hb3⟩
theorem Jop{H:Type}{enc:TypeId×Value->H}(hl:laidOutB P=true){W W':World}(hb:Below W.heap.size W W'):∀ {ts:List TypeId} {vs:List Value} {ds:List (DataW H)} {ps:List MemPlace},
  (ts.all fun t=>P.readableRec t&&decide (t<P.types.size))=true->(∀ p∈ps,p.block<W.heap.size)->DataW.TrodAll enc P W 0 (fun _=>true) true ts vs ds ps->DataW.TrodAll enc P W' 0 (fun b=>decide (b<W.heap.size)) true ts vs ds ps
 | [],_,_,_,_,_,h=>by
  obtain ⟨rfl,rfl,rfl⟩:=trodAll_nil h
  rfl
 | t::ts,_,_,_,ht,hp,h=>by
  obtain ⟨v,vs',d,ds',p,q,rfl,rfl,rfl,h1,h2⟩:=trodAll_cons h;simp only [List.all_cons,aI,decide_eq_true_eq] at ht;exact ⟨p,q,Below.trod hl ht.1.1 ht.1.2 h1 hb (fun x hx=>hp x (by simp [hx])),Jop hl hb (by simpa using ht.2) (fun x hx=>hp x (by simp [hx])) h2,rfl⟩
theorem Jyf{W:World}{name:String}{d:DataW Unit}:∀ {laid:List (String×DataW Unit)} {ps:List MemPlace},DataW.LaidVars P W laid ps->(name,d)∈laid ->
  ∃ g t cs fuel p,P.globalNamed name=some g/\(P.globals[g]?).map (·.type)=some t/\W.var? P name=some cs/\DataW.trod (fun _=>()) P W 0 (fun _=>true) false fuel t cs.toList=some (d,p)
 | [],_,_,h=>by cases h
 | (n,e)::r,ps,h,hm=>by
  obtain ⟨g,t,cs,fuel,p,q,h1,h2,h3,h4,h5,_⟩:=h;rcases bD.1 hm with e1|hm
  ·cases e1; exact ⟨g,t,cs,fuel,p,h1,h2,h3,h4⟩
  ·exact Jyf h5 hm
theorem Jfr{α:Type}[Enc α]{sl:Bool}{e:TypeId}[Dt α](he:Dh P e α sl){W:World}:∀ (tab:List α) (cs:List Value),cs.length=tab.length * Enc.k α->(∀ i x,tab[i]? = some x->Kg (Jv (Bk W) W) (cellsOf x) ((cs.drop (i * Enc.k α)).take (Enc.k α))) ->
  Kg (Jv (Bk W) W) (tab.flatMap cellsOf) cs
 | [],cs,hl,_=>by
  have:cs=[]:=aO (by simpa using hl);rw [this]; exact Kg.nil
 | x::xs,cs,hl,h=>by
  have h0:=h 0 x rfl;simp only [Nat.zero_mul,List.drop_zero] at h0;rw [<- bB (Enc.k α) cs,dY];refine h0.append (Jfr he xs _ ?_ fun i y hy=>?_)
  ·rw [cI,hl,aE,bU,dQ]
  ·have:=h (i+1) y (by simpa using hy);rw [eF]
   rwa [bU,Nat.add_comm] at this
theorem Ka4{g t e n:Nat}{name:String}{α:Type}[Enc α][Dt α]{sl:Bool}(he:Dh P e α sl)(_:sl=false)(hg:P.globalNamed name=some g)(hty:(P.globals[g]?).map (·.type)=some t)(ht:P.underlying t=some (.array n e))(hct:P.cellsOf t=n * Enc.k α){tab:List α}{dsx:List (DataW Unit)}{laid:List (String×DataW Unit)}(hd:Kg Dt.dat tab dsx)(hw:(DataW.weightsAll P e dsx).all (·<=reachBytes)=true)(hm:(name,.agg dsx)∈laid)(hpl:(laid.all fun x=>x.2.handleName?.isNone)=true){W:World}(h:laidMetH P laid W):Gw (Bk W) W (tab.flatMap cellsOf) g:=by
 rw [MakeChecks.laidMetH_plain _ _ _ hpl] at h;obtain ⟨ps,hl,_⟩:=h;obtain ⟨g',t',cs,fuel,p,h1,h2,h3,h4⟩:=Jyf hl hm;obtain rfl:=cY (hg.symm.trans h1);obtain rfl:=cY (hty.symm.trans h2);obtain ⟨xs,m,_,hx,hlen,hn,hp⟩:=DataW.trod_array ht h4;simp only [aM,DataW.agg.injEq] at hx;have hdl:tab.length=n:=by rw [hd.1,hx.1,aV,hn]
 have hall:Kg (Jv (Bk W) W) (tab.flatMap cellsOf) cs.toList:=by
  refine Jfr he tab cs.toList (by rw [hlen,hct,hdl]) fun i x hxi=>?_;have hi:i<n:=by rw [<- hdl]; exact (aG.1 hxi).1
  have hpi:=hp i hi;rw [aB oG] at hpi;have hdi:dsx[i]? = some (xs[i]'(by omega)).1:=by rw [hx.1,aN,aB oG]; rfl
  obtain ⟨a,ha1,_,ha2⟩:=he.rd trivial hpi (fun k hk=>by simpa using aK.1 hw k (Jca (aC hdi) hk)) (fun _=>rfl);have:a=x:=he.inj a x _ ha1 (hd.2 i x _ hxi hdi);subst this
  rwa [he.cells] at ha2
 have hcl:(tab.flatMap cellsOf).length=cs.size:=by rw [hall.1]; simp
 refine ⟨?_, ?_,by rw [World.var?_cell hg h3,hcl]; simp⟩
 rotate_left
 ·show g<W.heap.size;unfold World.var? at h3;rw [hg] at h3;simp only [aA] at h3;cases hb:W.heap[g]? with
  | none=>rw [hb] at h3; cases h3
  | some o=>exact (dX.1 hb).1
 rw [Yd];intro i c hc;obtain ⟨v,hv,hrel⟩:=hall.right hc;have Oy:W.cell? ⟨g,0+i,none⟩=some v:=by
  rw [aW,World.var?_cell hg h3 i]
  simpa using hv
 obtain ⟨x,hx,hcx⟩:=eI.1 (aC hc);exact ⟨aK.1 (he.one x) c hcx,(Ji5 Oy).1,v,Oy,hrel⟩
theorem Jkd{H:Type}{m:Nat}:∀ (ts vt:List TypeId) (ds:List (DataW H)),m∈DataW.weightsEach P ts ds->m∈DataW.weightsEach P (ts++vt) ds
 | [],_,_,h=>by simp [DataW.weightsEach] at h
 | t::ts,vt,[],h=>by simp [DataW.weightsEach] at h
 | t::ts,vt,d::ds,h=>by
  simp only [bO,DataW.weightsEach,aY] at h ⊢;exact h.imp id (Jkd ts vt ds)
theorem Kc1{f:FuncId}{fn:Func}{tb:TypeId}{β:Type}[DtL β]{ts:List TypeId}{pvs:β->List PV}(hts:fn.params.toList=ts)(A:Jon P ts β pvs){spec:ChangeSpec}{laid:List (String×DataW Unit)}{Gl:GL}(hG:∀ W,laidMetH P laid W->∀ i cs,Gl i=some cs->Gw (Bk W) W cs i)(hl:laidOutB P=true)(htys:(ts.all fun t=>P.readableRec t&&decide (t<P.types.size))=true)(hvars:spec.vars=[])(hfn:∀ (H:Type) (ds:List (DataW H)),ds.length=ts.length->spec.fn H ds={ results:=[.lit (.bool true)],args:=ds })(hres:fn.resultTypes=#[tb])(htb:P.underlying tb=some .bool){H:Type}{enc:TypeId×Value->H}{W:World}{base:Nat}{args:Array Value}{ds gs:List (DataW H)}{before:List MemPlace}{C:β->Prop}(call:∀ b,C b->Yx P Gl f (pvs b) (.bool true))(hC:∀ b,DtL.dts b (ds++gs)->DtL.rngs b->C b)(hval:∀ (j:Nat) t v,fn.params[j]? = some t->args[j]? = some v->Value.okWide P W .any base t v)(hW:DataW.Whole enc P fn.params.toList spec.vars false W args.toList ds gs before){vt:List TypeId}(hw:(DataW.weightsEach P (fn.params.toList++vt) (ds++gs)).all (·<=reachBytes)=true)(hL:laidMetH P laid W) :
  Calls P f args W fun e W'=>∃ v,e=.returned v/\spec.post enc P fn false true false false W args v W':=by
 have hW':=hW;obtain ⟨p,q,hA,hV,rfl,hfz,_⟩:=hW;rw [hvars] at hV;have hg:gs=[]/\q=[]:=by
  cases gs with
  | nil=>exact ⟨rfl,hV⟩
  | cons _ _=>exact hV.elim
 obtain ⟨rfl,rfl⟩:=hg;simp only [bE] at hW' hC hw;rw [hts] at hA;have hw':∀ m∈DataW.weightsEach P ts ds,m<=reachBytes:=fun m hm=>by
  rw [hts] at hw
  simpa using aK.1 hw m (Jkd ts vt ds hm)
 obtain ⟨b,hb1,hb4,hb2,hb3⟩:=A.rd (base:=base) hA (fun _=>rfl) (fun j t v ht hv=>hval j t v (by rw [<- hts] at ht; simpa using ht) (by simpa using hv)) hw';have hcall:=(call b (hC b hb1 hb4)).2 (Bk W) W args (fun _ _ h=>h) (hG W hL) hb3;refine hcall.mono fun e W' ⟨v,g',he,hgw,ha⟩=>⟨v,he, ?_⟩
 have hv:v=.bool true:=Wy.1 ha.rel;subst hv;have hbel:Below W.heap.size W W':=by rw [<- hgw]; exact ha.below.toBelow
 have hlt:∀ x∈p,x.block<W.heap.size:=fun x hx=>hW'.lt x hx;have hargs:=Jop hl hbel htys hlt hA;rw [<- hts] at hargs;refine ⟨ds,[],p,[],p,[],hW', ?_, ?_, ?_,World.keptBut_mono (fun x hx=>⟨hx,.inr (.inl hx)⟩) (hbel.frame _),fun e=>by cases e⟩
 ·rw [bE,hfn H ds hb2,hres];exact trodAll_mk1 (shut_bool htb true)
 ·rw [bE,hfn H ds hb2];exact hargs
 ·rw [hvars,bE,hfn H ds hb2]
  rfl
end
end PM
