import Derived.Test.YtmklahiganfdmaaGreatDoorPmA
import Derived.Laws.Slices
import Derived.MapKept
import Derived.Laws.Tables
import Derived.Orders
/-
 THE PURE MACHINE, F: the other operations that yield a value and leave memory alone; all of them in one function (ev1).
-/
namespace PM
open Go Go.RowKit
def Kdt (op:UnOp):PV→Option PV
 | .bool b=>match op with|.not=>some (.bool (!b))|_=>none
 | .int k n=>match op with|.neg=>some (.int k (k.wrap (0 - n)))|_=>none
 | _=>none
def Jun (P:Program) (src dst:TypeId):PV→Option PV
 | .int _ n=>match Ka3 P src,Ka3 P dst with
  | some _,some k=>some (.int k (k.wrap n))
  | _,_=>none
 | .str s=>if Jmm P src&&Jmm P dst then some (.str s) else none
 | _=>none
def Jqf (P:Program) (t:TypeId) (f:Nat):PV→Option PV
 | .agg cs=>match Jcx P t f with
  | some (off,true,n)=>if off+n≤cs.length then some (.agg ((cs.drop off).take n)) else none
  | some (off,false,_)=>cs[off]?
  | none=>none
 | _=>none
def Jb9 (P:Program) (t:TypeId) (f:Nat):PV→Option PV
 | .ref l o=>match Jcx P t f with|some (off,_,n)=>if n=0 then none else some (.ref l (o+off))|none=>none
 | .cptr cs=>match Jcx P t f with|some (off,_,n)=>if n=0 then none else some (.cptr (cs.drop off))|none=>none
 | .gptr g o=>match Jcx P t f with|some (off,_,n)=>if n=0 then none else some (.gptr g (o+off))|none=>none
 | .eref tk k N j o=>match Jcx P t f with|some (off,_,n)=>if n=0 then none else some (.eref tk k N j (o+off))|none=>none
 | _=>none
def Oa (P:Program) (t:TypeId):PV→PV→Option PV
 | .lst _ k _ xss,.int _ n=>match Sc P t with
  | some (_,_,k',_)=>if k'=k∧0≤n then (xss[n.toNat]?).map .cptr else none
  | none=>none
 | .sl l o len k _,.int _ n=>match Sc P t with
  | some (_,_,k',_)=>if k'=k∧0≤n∧n<len then some (.ref l (o * k+n.toNat * k)) else none
  | none=>none
 | .ex tk k _ N o m,.int _ n=>match Sc P t with
  | some (_,_,k',_)=>if k'=k∧0≤n∧n<m then some (.eref tk k N (o+n.toNat) 0) else none
  | none=>none
 | .ref l o,.int _ n=>match Jqw P t with
  | some (m,_,k)=>if 0≤n∧n<m then some (.ref l (o+n.toNat * k)) else none
  | none=>none
 | .cptr cs,.int _ n=>match Jqw P t with
  | some (m,_,k)=>if 0≤n∧n<m then some (.cptr (cs.drop (n.toNat * k))) else none
  | none=>none
 | .gptr g o,.int _ n=>match Jqw P t with
  | some (m,_,k)=>if 0≤n∧n<m then some (.gptr g (o+n.toNat * k)) else none
  | none=>none
 | _,_=>none
def Jgc (P:Program) (t:TypeId):PV→PV→Option PV
 | .agg cs,.int _ n=>match Jqw P t with
  | some (m,true,k)=>if 0≤n∧n<m∧n.toNat * k+k≤cs.length then some (.agg ((cs.drop (n.toNat * k)).take k)) else none
  | some (m,false,k)=>if 0≤n∧n<m then cs[n.toNat * k]? else none
  | none=>none
 | .str s,.int _ n=>if Jmm P t&&decide (0≤n) then (s[n.toNat]?).map fun b=>.int .u8 b.toNat else none
 | _,_=>none
def Jk5 (n:Nat) (cs:List PV):List PV:=if cs.length=n then cs else cs.take n
def Xf (P:Program) (t:TypeId) (cs:List PV):Option PV :=
 match tyK P t with
 | some (true,n)=>if n≤cs.length then some (.agg (Jk5 n cs)) else none
 | some (false,_)=>cs.head?
 | none=>none
def Ts (P:Program) (Gl:Nat→Option (List PV)) (H:Nat→Option Uk) (X:XT) (t:TypeId):PV→Option PV
 | .cptr cs=>Xf P t cs
 | .ref l o=>match H l with|some (.cells cs)=>Xf P t (cs.drop o)|_=>none
 | .gptr i o=>match Gl i with|some cs=>Xf P t (cs.drop o)|none=>none
 | .eref tk k N j o=>match X tk with|some (k',_,xss)=>if k'=k∧xss.length=N then (xss[j]?).bind fun cs=>Xf P t (cs.drop o) else none|none=>none
 | _=>none
def bnd (x:Option PV) (dflt:Nat):Option Nat :=
 match x with
 | none=>some dflt
 | some (.int _ n)=>if 0≤n then some n.toNat else none
 | _=>none
def Ti (P:Program) (t:TypeId) (lo hi mx:Option PV):PV→Option PV
 | .lst o k b xss=>match Sc P t,bnd lo 0,bnd hi xss.length,bnd mx xss.length with
  | some (_,_,k',_),some l,some h,some m =>
   if k'=k∧l≤h∧h≤m∧m≤xss.length∧(mx=none∨hi≠none) then some (.lst (if (mx≠none∧m=h)∨(o=.full∧hi=none) then .full else .frozen) k b ((xss.take h).drop l)) else none
  | _,_,_,_=>none
 | .nil=>match Sc P t,bnd lo 0,bnd hi 0,bnd mx 0 with
  | some _,some 0,some 0,some 0=>if mx=none∨hi≠none then some .nil else none
  | _,_,_,_=>none
 | .sl l o len k b=>match Sc P t,bnd lo 0,bnd hi len with
  | some (_,_,k',_),some a,some h=>if k'=k∧a≤h∧h≤len∧mx=none then some (.sl l (o+a) (h - a) k b) else none
  | _,_,_=>none
 | .ex tk k b N o len=>match Sc P t,bnd lo 0,bnd hi len with
  | some (_,_,k',_),some a,some h=>if k'=k∧a≤h∧h≤len∧mx=none then some (.ex tk k b N (o+a) (h - a)) else none
  | _,_,_=>none
 | .str s=>match bnd lo 0,bnd hi s.size with
  | some l,some h=>if Jmm P t=true∧l≤h∧h≤s.size∧mx=none then some (.str (s.extract l h)) else none
  | _,_=>none
 | _=>none
def Jr9 (P:Program) (H:Nat→Option Uk) (t:TypeId):PV→Option PV
 | .lst _ _ _ xss=>if Mi P t then some (.int .i64 xss.length) else none
 | .sl _ _ n _ _=>if Mi P t then some (.int .i64 n) else none
 | .ex _ _ _ _ _ n=>if Mi P t then some (.int .i64 n) else none
 | .nil=>if Mi P t then some (.int .i64 0) else none
 | .str s=>if Jmm P t then some (.int .i64 s.size) else none
 | .mp l=>match H l with|some (.map es)=>if Kcz P t then some (.int .i64 es.length) else none|_=>none
 | _=>none
/-- Are two keys equal? -/
def Jah : PV→PV→Option Bool
 | .int k a,.int k' b=>if k=k' then some (decide (a=b)) else none
 | .str a,.str b=>some (decide (a=b))
 | .bool a,.bool b=>some (decide (a=b))
 | .agg [.int .i64 a,.int .i64 b],.agg [.int .i64 c,.int .i64 d]=>some (decide (a=c)&&decide (b=d))
 | _,_=>none
def Jc4 (k:PV):List (PV×PV)→Option (Option PV)
 | []=>some none
 | e::es=>match Jah k e.1 with
  | some true=>some (some e.2)
  | some false=>Jc4 k es
  | none=>none
def Jdy (k v:PV):List (PV×PV)→Option (List (PV×PV))
 | []=>some [(k,v)]
 | e::es=>match Jah k e.1 with
  | some true=>some ((k,v)::es)
  | some false=>(Jdy k v es).map (e::·)
  | none=>none
def Jpd (P:Program) (t:TypeId):Bool:=match P.underlying t with|some (.int .i64)=>true|_=>false
/-- A struct of two numbers. -/
def Jiq (P:Program) (t:TypeId):Bool :=
 match P.underlying t with
 | some (.struct fs)=>(match fs.toList with
  | [f1,f2]=>Jpd P f1.type&&Jpd P f2.type&&decide (f1.offset=0)&&decide (f2.offset=1)
  | _=>false)&&(match Jf0 P 10000 t with|some [.i .i64,.i .i64]=>true|_=>false)
 | _=>false
def Jhv (P:Program) (t:TypeId):TypeDesc→Bool
 | .struct _=>Jiq P t
 | _=>true
/-- A map's kind of keys, and the zero value of its elements. -/
def Jcj (P:Program) (t:TypeId):Option (TypeDesc×PV) :=
 match P.underlying t with
 | some (.map k e)=>match P.underlying k,Jd5 P e with
  | some d,some z=>if Sb z=true∧Jhv P k d=true then some (d,z) else none
  | _,_=>none
 | _=>none
def Gu : TypeDesc→PV→Bool
 | .int k,.int k' _=>decide (k'=k)
 | .string,.str _=>true
 | .bool,.bool _=>true
 | .struct _,.agg [.int .i64 _,.int .i64 _]=>true
 | _,_=>false
/-- What a map gives at a key that it does not have: an empty list in place of nil. -/
def Jxd (P:Program) (t:TypeId) (z:PV):PV :=
 match z with
 | .nil=>match P.underlying t with
  | some (.map _ e)=>match Sc P e with
   | some (_,_,k,b)=>.lst .frozen k b []
   | none=>.nil
  | _=>.nil
 | z=>z
theorem Jzw {g:GG} {P:Program} {t:TypeId} {z:PV} {v:Value} (h:Qo g z v):Qo g (Jxd P t z) v:=by
 unfold Jxd
 split
 ·split
  ·split
   ·exact Kg.ofNil _ _ (.inl rfl) h
   ·exact h
  ·exact h
 ·exact h
def Rt (P:Program) (t:TypeId) (es:List (PV×PV)) (k:PV) (ok:Bool):Option PV :=
 match Jcj P t with
 | some (d,z)=>if Gu d k=true then (Jc4 k es).map fun r=>if ok=true then .tup [r.getD (Jxd P t z),.bool r.isSome] else r.getD (Jxd P t z) else none
 | none=>none
/-- Where a key is in a map of lists that may grow in place. -/
def Jgp (k:PV):List (PV×List (List PV))→Option (Option (Nat×List (List PV)))
 | []=>some none
 | e::es=>match Jah k e.1 with
  | some true=>some (some (0,e.2))
  | some false=>(Jgp k es).map (Option.map fun x=>(x.1+1,x.2))
  | none=>none
def Jma (k b:Nat) (es:List (PV×List (List PV))):List (PV×PV):=es.map fun e=>(e.1,.lst .frozen k b e.2)
def Py (P:Program) (t:TypeId) (es:List (PV×List (List PV))) (k b:Nat) (tk:Nat→Nat) (kv:PV) (ok:Bool):Option PV :=
 match Jcj P t,ok with
 | some (d,.nil),false=>if Gu d kv=true then (Jgp kv es).map fun r=>match r with
  | some (i,xss)=>.lst (.own (tk i)) k b xss
  | none=>.nil
  else none
 | _,_=>none
def Fm : PV→Bool
 | .ref _ _|.cptr _|.gptr _ _=>true
 | _=>false
def Oy (max:Bool):PV→PV→Option PV
 | .int k a,.int k' b=>if k=k' then some (.int k (if max then Max.max a b else Min.min a b)) else none
 | _,_=>none
section
variable {P:Program} {Gl:Nat→Option (List PV)} {S0:Bs} {w0:World} {s:PSt} {a:Act} {g:GG} {w:World}
theorem Jzx {op:UnOp} {p r:PV} {v:Value} (h:Kdt op p=some r) (hv:Rel g p v):∃ z,(Op.unary op v).run P w=.ok z w∧Rel g r z:=by
 cases p <;> simp only [Kdt] at h <;> try cases h
 case bool b =>
  rw [Wh] at hv; subst hv
  cases op <;> simp only at h <;> cases h
  exact ⟨_,by simp [Op.unary],Wh.2 rfl⟩
 case int k n =>
  rw [Uw] at hv; subst hv
  cases op <;> simp only at h <;> cases h
  exact ⟨_,by simp [Op.unary,Op.intArith]; rfl,Uw.2 (by simp)⟩
theorem Jnx {t:TypeId} {k:IntKind} (h:Ka3 P t=some k):P.underlying t=some (.int k):=by
 unfold Ka3 at h
 split at h
 ·rename_i k' hk; cases h; exact hk
 ·cases h
theorem Px {t:TypeId} (h:Jmm P t=true):P.underlying t=some .string:=by
 unfold Jmm at h
 split at h
 ·assumption
 ·cases h
theorem Lb {t:TypeId} (h:Mi P t=true):∃ e,P.underlying t=some (.slice e):=by
 unfold Mi at h
 split at h
 ·rename_i e he; exact ⟨e,he⟩
 ·cases h
theorem Jt1 {src dst:TypeId} {p r:PV} {v:Value} (h:Jun P src dst p=some r) (hv:Rel g p v):∃ z,(convert src dst v).run P w=.ok z w∧Rel g r z:=by
 cases p <;> simp only [Jun] at h <;> try cases h
 case int k n =>
  rw [Uw] at hv; subst hv
  split at h
  ·rename_i k1 k2 h1 h2
   cases h
   exact ⟨_,by simp [convert,run_underlying (Jnx h1),run_underlying (Jnx h2),Conv.intToInt],Uw.2 rfl⟩
  ·cases h
 case str s =>
  rw [Jbo] at hv; subst hv
  by_cases hs:(Jmm P src&&Jmm P dst)=true
  ·rw [if_pos hs] at h; cases h
   simp only [Bool.and_eq_true] at hs
   exact ⟨_,by simp [convert,run_underlying (Px hs.1),run_underlying (Px hs.2)],Jbo.2 rfl⟩
  ·rw [if_neg hs] at h; cases h
theorem Ya.rel {p:PV} {v:Value} (h:Ya g p v):Rel g p v:=.of1 h.1
theorem Jvc {cs:List PV} {arr:Array Value} (h:Kz (Ya g) cs arr.toList) (off n:Nat):Rel g (.agg ((cs.drop off).take n)) (.agg (arr.extract off (off+n))):=by
 simp only [Rel,Qo]
 refine ⟨_,rfl, ?_⟩
 have:=(h.drop off).take n
 rwa [show (arr.extract off (off+n)).toList=(arr.toList.drop off).take n by simp [Array.toList_extract]]
theorem Jq1 {t:TypeId} {f:Nat} {p r:PV} {v:Value} (h:Jqf P t f p=some r) (hv:Rel g p v):∃ z,(Instr.field t v f).run P w=.ok z w∧Rel g r z:=by
 cases p <;> simp only [Jqf] at h <;> try cases h
 case agg cs =>
  simp only [Rel,Qo] at hv
  obtain ⟨arr,rfl,harr⟩:=hv
  split at h
  ·rename_i off n hk
   obtain ⟨fs,fl,i,d,h1,h2,h3,h4,h5,h6,h7⟩:=Jb3 hk
   split at h
   ·cases h
    refine ⟨.agg (arr.extract off (off+n)), ?_,Jvc harr off n⟩
    simp only [Instr.field,Sem.run_bind,run_underlying h1,Result.andThen_ok,h2,asAgg,part,La h5,Vy h4,← h6,if_true,h3,Sem.run_pure,h7]
   ·cases h
  ·rename_i off n hk
   obtain ⟨fs,fl,i,d,h1,h2,h3,h4,h5,h6,h7⟩:=Jb3 hk
   obtain ⟨v,hv,hrel⟩:=harr.right h
   refine ⟨v, ?_,hrel.rel⟩
   simp only [Instr.field,Sem.run_bind,run_underlying h1,Result.andThen_ok,h2,asAgg,part,La h5,← h6,Bool.false_eq_true,if_false,h3,Sem.run_pure]
   rw [show arr[off]?=some v by simpa using hv]
   rfl
  ·cases h
theorem Uo.drop {S:Ua} {cs:List PV} {B o:Nat} (h:Uo S w cs B o) (n:Nat):Uo S w (cs.drop n) B (o+n):=by
 rw [Yc] at h ⊢
 intro i c hc
 rw [List.getElem?_drop] at hc
 have:=h _ c hc
 rwa [show o+(n+i)=o+n+i by omega] at this
theorem Th {cs:List PV} {v:Value}:Rel g (.cptr cs) v↔∃ B off,v=.pointer (some ⟨B,off,none⟩)∧Uo g.S g.w cs B off:=by simp [Rel,Qo,Ky,Kg]
theorem Ry {l o:Nat} {v:Value}:Rel g (.ref l o) v↔v=.pointer (some ⟨g.φ l,o,none⟩)∧(g.H l).isSome=true:=by simp [Rel,Qo,Ky]
theorem Jaw {i o:Nat} {v:Value}:Rel g (.gptr i o) v↔v=.pointer (some ⟨i,o,none⟩):=by simp [Rel,Qo,Ky,Kg]
theorem Sn {t:TypeId} {f off n:Nat} {x:Bool} (hk:Jcx P t f=some (off,x,n)) (hn:n≠0) (B o:Nat):(Instr.fieldAt t (.pointer (some ⟨B,o,none⟩)) f).run P w=.ok (.pointer (some ⟨B,o+off,none⟩)) w:=by
 obtain ⟨fs,fl,i,d,h1,h2,h3,h4,h5,h6,h7⟩:=Jb3 hk
 have hi:¬ i.size=0:=by omega
 simp [Instr.fieldAt,Sem.run_bind,run_underlying h1,h2,Instr.sureAddr,fieldPlace,Vy h4,hi,h3,Addr.add_lit]
theorem Jjj {t:TypeId} {f:Nat} {p r:PV} {v:Value} (h:Jb9 P t f p=some r) (hv:Rel g p v) (hw:g.w=w):∃ z,(Instr.fieldAt t v f).run P w=.ok z w∧Rel g r z:=by
 subst hw
 cases p <;> simp only [Jb9] at h <;> try cases h
 case ref l o =>
  split at h
  ·rename_i off x n hk
   by_cases hn:n=0
   ·rw [if_pos hn] at h; cases h
   ·rw [if_neg hn] at h; cases h
    rw [Ry] at hv
    obtain ⟨rfl,hl⟩:=hv
    exact ⟨_,Sn hk hn _ _,Ry.2 ⟨rfl,hl⟩⟩
  ·cases h
 case cptr cs =>
  split at h
  ·rename_i off x n hk
   by_cases hn:n=0
   ·rw [if_pos hn] at h; cases h
   ·rw [if_neg hn] at h; cases h
    rw [Th] at hv
    obtain ⟨B,o,rfl,hc⟩:=hv
    exact ⟨_,Sn hk hn _ _,Th.2 ⟨B,o+off,rfl,hc.drop off⟩⟩
  ·cases h
 case eref tk k N j o =>
  split at h
  ·rename_i off x n hk
   by_cases hn:n=0
   ·rw [if_pos hn] at h; cases h
   ·rw [if_neg hn] at h; cases h
    simp only [Rel,Qo,Ky] at hv
    obtain ⟨⟨B,q,rfl⟩,N',h1,h2,h3⟩:=hv
    refine ⟨_,Sn hk hn _ _,⟨⟨B,_,rfl⟩,N',h1,h2,fun e=>?_⟩⟩
    obtain ⟨B',cap,e1,e2⟩:=h3 e
    cases e2
    exact ⟨B,cap,e1,by rw [Nat.add_assoc]⟩
  ·cases h
 case gptr i o =>
  split at h
  ·rename_i off x n hk
   by_cases hn:n=0
   ·rw [if_pos hn] at h; cases h
   ·rw [if_neg hn] at h; cases h
    rw [Jaw] at hv
    subst hv
    exact ⟨_,Sn hk hn _ _,Jaw.2 rfl⟩
  ·cases h
theorem Rd {t:TypeId} {e:TypeId} {x:Bool} {k b:Nat} (hk:Sc P t=some (e,x,k,b)) (B o len cap:Nat) (k':IntKind) (n:Int) (h0:0≤n) (h1:n<len) :
  (Instr.indexAt t (.slice (some ⟨B,o,none⟩) len cap) (.int k' n)).run P w=.ok (.pointer (some ⟨B,o+n.toNat * k,none⟩)) w:=by
 obtain ⟨i,d,h2,h3,h4,h5,h6,h7⟩:=Nf hk
 have he:P.elem t=e:=by simp [Program.elem,h2]
 rw [run_indexAt_slice w t _ _ _ _ _ (by rw [he]; exact h2),if_pos ⟨h0,h1⟩,he,Vy h3]
 simp only [Result.andThen_ok,Addr.add_lit,h6]
theorem Pc {t:TypeId} {m k:Nat} {x:Bool} (hk:Jqw P t=some (m,x,k)) (B o:Nat) (k':IntKind) (n:Int) (h0:0≤n) (h1:n<m) :
  (Instr.indexAt t (.pointer (some ⟨B,o,none⟩)) (.int k' n)).run P w=.ok (.pointer (some ⟨B,o+n.toNat * k,none⟩)) w:=by
 obtain ⟨e,i,d,h2,h3,h4,h5,h6⟩:=Jdc hk
 have he:P.elem t=e:=by simp [Program.elem,h2]
 have hl:P.arrayLen t=m:=by simp [Program.arrayLen,h2]
 rw [run_indexAt_array w t _ _ _ (by rw [he,hl]; exact h2),hl,if_pos ⟨h0,h1⟩,he,Vy h3]
 simp only [Result.andThen_ok,Addr.add_lit,h6]
theorem Jhb {o:Own} {k b:Nat} {xss:List (List PV)} {v:Value} (h:Rel g (.lst o k b xss) v):Kg g.S g.w (.lst .frozen k b xss) v:=by
 cases o with
 | own t=>exact h.1
 | frozen=>exact h
 | full=>exact Kg.unfull h
theorem Jjb {t:TypeId} {p q r:PV} {v u:Value} (h:Oa P t p q=some r) (hv:Rel g p v) (hu:Rel g q u) (hw:g.w=w):∃ z,(Instr.indexAt t v u).run P w=.ok z w∧Rel g r z:=by
 subst hw
 cases p <;> cases q <;> simp only [Oa] at h <;> try cases h
 case lst.int o k b xss k' n =>
  rw [Uw] at hu; subst hu
  split at h
  ·rename_i e x k1 b1 hk
   by_cases hc:k1=k∧0≤n
   ·rw [if_pos hc] at h
    obtain ⟨rfl,h0⟩:=hc
    obtain ⟨cs,hcs,rfl⟩:=Option.map_eq_some_iff.1 h
    have hlt:n.toNat<xss.length:=(List.getElem?_eq_some_iff.1 hcs).1
    have hd:=Jhb hv
    simp only [Kg] at hd
    obtain ⟨_,_,_,⟨_,rfl⟩|⟨B,off,cap,rfl,_,_,he⟩⟩:=hd
    ·simp at hlt
    ·exact ⟨_,Rd hk _ _ _ _ _ _ h0 (by omega),Th.2 ⟨B,_,rfl,((Rs k1 xss B off).1 he _ cs hcs).2⟩⟩
   ·rw [if_neg hc] at h; cases h
  ·cases h
 case sl.int l o len k b k' n =>
  rw [Uw] at hu; subst hu
  split at h
  ·rename_i e x k1 b1 hk
   by_cases hc:k1=k∧0≤n∧n<len
   ·rw [if_pos hc] at h; cases h
    obtain ⟨rfl,h0,h1⟩:=hc
    simp only [Rel,Qo,Ky] at hv
    obtain ⟨⟨off,cap,rfl,hcap,hoff⟩,cs,hcs,_⟩:=hv
    have:off=o * k1:=hoff.resolve_right (by omega)
    subst this
    exact ⟨_,Rd hk _ _ _ _ _ _ h0 h1,Ry.2 ⟨rfl,by rw [hcs]; rfl⟩⟩
   ·rw [if_neg hc] at h; cases h
  ·cases h
 case ex.int tk k b N o m k' n =>
  rw [Uw] at hu; subst hu
  split at h
  ·rename_i e x k1 b1 hk
   by_cases hc:k1=k∧0≤n∧n<m
   ·rw [if_pos hc] at h; cases h
    obtain ⟨rfl,h0,h1⟩:=hc
    simp only [Rel,Qo,Ky] at hv
    obtain ⟨⟨x,cap,rfl,hcap,hx⟩,N',q1,q2,q3⟩:=hv
    obtain ⟨B,off,rfl⟩:=hx (by omega)
    refine ⟨_,Rd hk _ _ _ _ _ _ h0 h1,⟨⟨B,_,rfl⟩,N',q1,q2,fun e=>?_⟩⟩
    rcases q3 e with ⟨_,_,_,e4⟩|⟨B',cap',off',e1,e2,e3,e4,e5,e6⟩
    ·omega
    ·simp only [Value.slice.injEq,Option.some.injEq,Addr.mk.injEq,and_true] at e5
     obtain ⟨⟨rfl,rfl⟩,_,rfl⟩:=e5
     rcases e6 with rfl|e6
     ·exact ⟨B,cap',e1,by rw [Nat.add_zero,Nat.add_mul]⟩
     ·omega
   ·rw [if_neg hc] at h; cases h
  ·cases h
 case ref.int l o k' n =>
  rw [Uw] at hu; subst hu
  split at h
  ·rename_i m x k1 hk
   by_cases hc:0≤n∧n<m
   ·rw [if_pos hc] at h; cases h
    rw [Ry] at hv
    obtain ⟨rfl,hl⟩:=hv
    exact ⟨_,Pc hk _ _ _ _ hc.1 hc.2,Ry.2 ⟨rfl,hl⟩⟩
   ·rw [if_neg hc] at h; cases h
  ·cases h
 case cptr.int cs k' n =>
  rw [Uw] at hu; subst hu
  split at h
  ·rename_i m x k1 hk
   by_cases hc:0≤n∧n<m
   ·rw [if_pos hc] at h; cases h
    rw [Th] at hv
    obtain ⟨B,o,rfl,hcs⟩:=hv
    exact ⟨_,Pc hk _ _ _ _ hc.1 hc.2,Th.2 ⟨B,_,rfl,hcs.drop _⟩⟩
   ·rw [if_neg hc] at h; cases h
  ·cases h
 case gptr.int i o k' n =>
  rw [Uw] at hu; subst hu
  split at h
  ·rename_i m x k1 hk
   by_cases hc:0≤n∧n<m
   ·rw [if_pos hc] at h; cases h
    rw [Jaw] at hv
    subst hv
    exact ⟨_,Pc hk _ _ _ _ hc.1 hc.2,Jaw.2 rfl⟩
   ·rw [if_neg hc] at h; cases h
  ·cases h
theorem Js3 {t:TypeId} {p q r:PV} {v u:Value} (h:Jgc P t p q=some r) (hv:Rel g p v) (hu:Rel g q u):∃ z,(Instr.index t v u).run P w=.ok z w∧Rel g r z:=by
 cases p <;> cases q <;> simp only [Jgc] at h <;> try cases h
 case agg.int cs k' n =>
  rw [Uw] at hu; subst hu
  simp only [Rel,Qo] at hv
  obtain ⟨arr,rfl,harr⟩:=hv
  split at h
  ·rename_i m k hk
   obtain ⟨e,i,d,h2,h3,h4,h5,h6⟩:=Jdc hk
   by_cases hc:0≤n∧n<m∧n.toNat * k+k≤cs.length
   ·rw [if_pos hc] at h; cases h
    refine ⟨_, ?_,Jvc harr (n.toNat * k) k⟩
    have hc':0≤n∧n<(m:Int):=⟨hc.1,hc.2.1⟩
    simp only [Instr.index,asIntOf,Sem.run_bind,Sem.run_pure,Result.andThen_ok,run_underlying h2,if_pos hc',Vy h3,part,La h4,← h5,if_true,h6]
   ·rw [if_neg hc] at h; cases h
  ·rename_i m k hk
   obtain ⟨e,i,d,h2,h3,h4,h5,h6⟩:=Jdc hk
   by_cases hc:0≤n∧n<m
   ·rw [if_pos hc] at h
    obtain ⟨z,hz,hrel⟩:=harr.right h
    refine ⟨z, ?_,hrel.rel⟩
    simp only [Instr.index,asIntOf,Sem.run_bind,Sem.run_pure,Result.andThen_ok,run_underlying h2,if_pos hc,Vy h3,part,La h4,← h5,Bool.false_eq_true,if_false,← h6]
    rw [show arr[n.toNat * k]?=some z by simpa using hz]
    rfl
   ·rw [if_neg hc] at h; cases h
  ·cases h
 case str.int st k' n =>
  rw [Uw] at hu; subst hu
  rw [Jbo] at hv; subst hv
  by_cases hc:(Jmm P t&&decide (0≤n))=true
  ·rw [if_pos hc] at h
   simp only [Bool.and_eq_true,decide_eq_true_eq] at hc
   obtain ⟨b,hb,rfl⟩:=Option.map_eq_some_iff.1 h
   refine ⟨_, ?_,Uw.2 rfl⟩
   simp only [Instr.index,asIntOf,Sem.run_bind,Sem.run_pure,Result.andThen_ok,run_underlying (Px hc.1),if_pos hc.2,hb]
  ·rw [if_neg hc] at h; cases h
end
end PM
/-
 THE PURE MACHINE, G: loads, slices, lengths, composites: values again; all such operations in one function (ev1), and its soundness.
-/
namespace PM
open Go Go.RowKit
/-- The fields' (offset, size). -/
def Jf1 (P:Program):List Field→Option (List (Nat×Nat))
 | []=>some []
 | f::fs=>match P.info? f.type,Jf1 P fs with
  | some i,some r=>some ((f.offset,i.size)::r)
  | _,_=>none
def Ju6 (P:Program) (t:TypeId):Option (List (Nat×Nat)) :=
 match P.underlying t with
 | some (.struct fs)=>Jf1 P fs.toList
 | _=>none
/-- The parts are laid over the zero cells. -/
def Jil (pl:List (Nat×Nat)):List (Nat×PV)→List PV→Option (List PV)
 | [],cs=>some cs
 | (i,v)::rest,cs=>match pl[i]? with
  | some (off,n) =>
   if v.cells.length=n∧off+n≤cs.length∧v.cells.all PV.okCell then Jil pl rest (cs.take off++v.cells++cs.drop (off+n)) else none
  | none=>none
 where
 /-- A cell that is known to be one. -/
 PV.okCell:PV→Bool:=PV.one
def Jj5 (P:Program) (t:TypeId) (parts:List (Nat×PV)):Option PV :=
 match Jd5 P t,Ju6 P t,parts,Jqw P t with
 | some (.agg z),some pl,parts,_=>(Jil pl parts z).map .agg
 | some (.agg z),none,[],some _=>some (.agg z)
 | _,_,_,_=>none
section
variable {P:Program} {Gl:Nat→Option (List PV)} {S0:Bs} {w0:World} {s:PSt} {a:Act} {g:GG} {w:World}
theorem Jyj (d:TypeDesc):d.isRow=Cx d:=by cases d <;> rfl
/-- A bound of a slice expression, present or not. -/
def Jys (g:GG):Option PV→Option Value→Prop
 | none,none=>True
 | some p,some v=>Rel g p v
 | _,_=>False
theorem Mv {t:TypeId} {cs:List PV} {r:PV} {B o:Nat} (h:Xf P t cs=some r) (vs:List Value) (hvs:Kz (Ya g) cs vs) (hr:w.rangeAt B o vs) :
  ∃ z,(Instr.loadAt t (.pointer (some ⟨B,o,none⟩))).run P w=.ok z w∧Rel g r z:=by
 unfold Xf at h
 split at h
 ·rename_i n hk
  obtain ⟨i,d,h1,h2,h3⟩:=Ol hk
  obtain ⟨h3a,h3b⟩:=Prod.mk.inj h3
  by_cases hn:n≤cs.length
  ·rw [if_pos hn] at h; cases h
   have hrow:d.isRow=true:=by rw [Jyj]; exact h3a.symm
   have hlen:(vs.take n).length=n:=by rw [List.length_take,← hvs.1]; omega
   refine ⟨_,run_loadAt_mid w B o t (vs.take n) d (fun j v hv=>?_) h2 hrow (by rw [h1,hlen,h3b]; rfl), ?_⟩
   ·rw [List.getElem?_take] at hv
    by_cases hj:j<n
    ·rw [if_pos hj] at hv; exact hr j v hv
    ·rw [if_neg hj] at hv; cases hv
   ·simp only [Rel,Qo]
    refine ⟨_,rfl, ?_⟩
    unfold Jk5
    split
    ·rename_i he
     rw [show (vs.take n)=vs from List.take_of_length_le (by rw [← hvs.1,he]; exact Nat.le_refl _)]
     exact hvs
    ·exact hvs.take n
  ·rw [if_neg hn] at h; cases h
 ·rename_i n hk
  obtain ⟨i,d,h1,h2,h3⟩:=Ol hk
  obtain ⟨h3a,h3b⟩:=Prod.mk.inj h3
  cases cs with
  | nil=>cases h
  | cons c cs =>
   cases h
   obtain ⟨v,vs',rfl,hc,_⟩:=hvs.cons_left
   have Lf:=hr 0 v rfl
   rw [Nat.add_zero] at Lf
   refine ⟨v, ?_,hc.rel⟩
   simp only [Instr.loadAt,Instr.sureAddr,Sem.run_bind,Sem.run_pure,Result.andThen_ok,loadVar,La h2,← h3a,Bool.false_eq_true,if_false,load]
   simp [Sem.run,Lf]
 ·cases h
theorem Uo.forC {cs:List PV} {B o:Nat} (h:Uo g.S g.w cs B o):∃ vs,Kz (Ya g) cs vs∧g.w.rangeAt B o vs:=by
 obtain ⟨vs,h1,h2,h3⟩:=h.values
 refine ⟨vs,⟨h1.1,fun i x y hx hy=>?_⟩,h2⟩
 have:=h1.2 i x y hx hy
 have hone:=((Yc cs B o).1 h i x hx).1
 exact ⟨.of_data this hone,(this.oneCell hone).1⟩
theorem Jfn {w:World} {B o:Nat} {vs:List Value} (h:w.rangeAt B o vs) (n:Nat):w.rangeAt B (o+n) (vs.drop n):=fun j v hv=>by
 rw [List.getElem?_drop] at hv
 have:=h _ v hv
 rwa [show o+(n+j)=o+n+j by omega] at this
theorem Jpi {w:World} {B o:Nat} {vs:List Value} (h:w.rangeAt B o vs) (n:Nat):w.rangeAt B o (vs.take n):=fun j v hv=>by
 rw [List.getElem?_take] at hv
 split at hv
 ·exact h j v hv
 ·cases hv
theorem Jn7 {k:Nat}:∀ {xss:List (List PV)} {j:Nat} {cs:List PV},(∀ c∈xss,c.length=k)→xss[j]?=some cs→∀ o,xss.flatten.drop (j * k+o)=cs.drop o++(xss.drop (j+1)).flatten∨cs.length<o
 | [],j,cs,_,h,_=>by simp at h
 | c::r,0,cs,hk,h,o=>by
  simp at h; subst h
  by_cases ho:c.length<o
  ·exact .inr ho
  ·left
   rw [Nat.zero_mul,Nat.zero_add,List.flatten_cons,List.drop_append_of_le_length (by omega)]
   simp
 | c::r,j+1,cs,hk,h,o=>by
  have hc:c.length=k:=hk c (by simp)
  rcases Jn7 (k:=k) (xss:=r) (j:=j) (cs:=cs) (fun x hx=>hk x (by simp [hx])) (by simpa using h) o with e|e
  ·left
   rw [List.flatten_cons,List.drop_append,List.drop_eq_nil_of_le (by rw [hc,Nat.succ_mul]; omega),List.nil_append,hc,show (j+1) * k+o - k=j * k+o by rw [Nat.succ_mul]; omega,e]
   simp
  ·exact .inr e
theorem Jlw (h:Kw Gl S0 w0 s a g) {t:TypeId} {p r:PV} {v:Value} (he:Ts P Gl s.H s.X t p=some r) (hv:Rel g p v) :
  ∃ z,(Instr.loadAt t v).run P g.w=.ok z g.w∧Rel g r z:=by
 cases p <;> simp only [Ts] at he <;> try cases he
 case cptr cs =>
  rw [Th] at hv
  obtain ⟨B,o,rfl,hc⟩:=hv
  obtain ⟨vs,h1,h2⟩:=hc.forC
  exact Mv he vs h1 h2
 case eref tk k N j o =>
  split at he
  ·rename_i k' b' xss hx
   by_cases hc:k'=k∧xss.length=N
   ·rw [if_pos hc] at he
    obtain ⟨rfl,hN⟩:=hc
    obtain ⟨cs,hcs,hl⟩:=Option.bind_eq_some_iff.1 he
    obtain ⟨q1,q2,q3,q4,q5,q6⟩:=h.exs tk _ _ _ hx
    simp only [Rel,Qo,Ky] at hv
    obtain ⟨⟨B,q,rfl⟩,N',r1,r2,r3⟩:=hv
    rw [q1] at r1; cases r1
    obtain ⟨B1,cap1,e1,e2⟩:=r3 hN.symm
    cases e2
    have hj:j<xss.length:=(List.getElem?_eq_some_iff.1 hcs).1
    rcases q6 with ⟨_,rfl⟩|⟨B2,cap2,e3,_,_,_,_,_,⟨vs,v1,v2⟩,_⟩
    ·simp at hj
    ·rw [e3] at e1
     simp only [Value.slice.injEq,Option.some.injEq,Addr.mk.injEq,and_true] at e1
     obtain ⟨rfl,_⟩:=e1
     have h3:=Jfn v2 (j * k'+o)
     rw [Nat.zero_add] at h3
     have h4:Kz (Ya g) (xss.flatten.drop (j * k'+o)) (vs.drop (j * k'+o)):=(v1.mono fun _ _ q=>⟨Ky.of_data q.1 q.2,(q.1.oneCell q.2).1⟩).drop _
     have h5:xss.flatten.drop (j * k'+o)=cs.drop o++(xss.drop (j+1)).flatten∨cs.length<o:=Jn7 q3 hcs o
     rcases h5 with h5|h5
     ·rw [h5] at h4
      have h6:=h4.take (cs.drop o).length
      rw [List.take_left'] at h6
      ·exact Mv hl _ h6 (Jpi h3 _)
      ·rfl
     ·rw [List.drop_eq_nil_of_le (by omega)] at hl
      exact Mv hl [] .nil (fun j v hv=>by simp at hv)
   ·rw [if_neg hc] at he; cases he
  ·cases he
 case ref l o =>
  rw [Ry] at hv
  obtain ⟨rfl,hl⟩:=hv
  split at he
  ·rename_i cs hcs
   obtain ⟨_,_,_,vs,h1,h2,_⟩:=h.objs l _ (by rw [h.hH]; exact hcs)
   have h3:=Jfn h2 o
   rw [Nat.zero_add] at h3
   exact Mv he _ (h1.drop o) h3
  ·cases he
 case gptr i o =>
  rw [Jaw] at hv
  subst hv
  split at he
  ·rename_i cs hcs
   obtain ⟨vs,h1,h2⟩:=((h.glob i cs hcs).1.drop o).forC
   rw [Nat.zero_add] at h2
   exact Mv he vs h1 h2
  ·cases he
theorem Cn {x:Option PV} {d n:Nat} {ρ:Option Value} (h:bnd x d=some n) (hρ:Jys g x ρ) :
  (x=none∧ρ=none∧n=d)∨∃ (k:IntKind) (m:Int),x=some (.int k m)∧ρ=some (.int k m)∧0≤m∧m=n:=by
 cases x with
 | none =>
  cases ρ with
  | none=>cases h; exact .inl ⟨rfl,rfl,rfl⟩
  | some v=>exact hρ.elim
 | some p =>
  cases ρ with
  | none=>exact hρ.elim
  | some v =>
   cases p <;> simp only [bnd] at h <;> try cases h
   rename_i k m
   by_cases hm:0≤m
   ·rw [if_pos hm] at h; cases h
    have hρ':Rel g (.int k m) v:=hρ
    rw [Uw] at hρ'
    subst hρ'
    exact .inr ⟨k,m,rfl,rfl,hm,by omega⟩
   ·rw [if_neg hm] at h; cases h
/-- What a slice expression's bounds come to. -/
theorem Rx {isS:Bool} {len cap l h m:Nat} {lo hi mx:Option PV} {ρl ρh ρm:Option Value}
  (hl:(lo=none∧ρl=none∧l=0)∨∃ (k:IntKind) (n:Int),lo=some (.int k n)∧ρl=some (.int k n)∧0≤n∧n=l)
  (hh:(hi=none∧ρh=none∧h=len)∨∃ (k:IntKind) (n:Int),hi=some (.int k n)∧ρh=some (.int k n)∧0≤n∧n=h)
  (hm:(mx=none∧ρm=none∧m=len)∨∃ (k:IntKind) (n:Int),mx=some (.int k n)∧ρm=some (.int k n)∧0≤n∧n=m)
  (h1:l≤h) (h2:h≤m) (h3:m≤len) (h4:len≤cap) (h5:mx=none∨hi≠none) :
  (Instr.sliceBounds isS len cap ρl ρh ρm).run P w=.ok (l,h,if mx=none then cap else m) w:=by
 have sb:∀ (k:IntKind) (n:Int) (c y:Nat) (code:BoundsCode),0≤n→n=c→c≤y→(Instr.sliceBound (.int k n) y code).run P w=.ok c w:=fun k n c y code e1 e2 e3=>by
  rw [run_sliceBound w k n y code e1 (by omega)]
  congr 1
  omega
 rcases hm with ⟨rfl,rfl,rfl⟩|⟨km,nm,rfl,rfl,e3,e4⟩
 ·rcases hh with ⟨rfl,rfl,rfl⟩|⟨kh,nh,rfl,rfl,f3,f4⟩ <;> rcases hl with ⟨rfl,rfl,rfl⟩|⟨kl,nl,rfl,rfl,g3,g4⟩
  ·simp [Instr.sliceBounds]
  ·simp [Instr.sliceBounds,sb kl nl l _ _ g3 g4 h1]
  ·simp [Instr.sliceBounds,sb kh nh h cap _ f3 f4 (by omega)]
  ·simp [Instr.sliceBounds,sb kh nh h cap _ f3 f4 (by omega),sb kl nl l _ _ g3 g4 h1]
 ·rcases hh with ⟨rfl,rfl,rfl⟩|⟨kh,nh,rfl,rfl,f3,f4⟩
  ·simp at h5
  ·rcases hl with ⟨rfl,rfl,rfl⟩|⟨kl,nl,rfl,rfl,g3,g4⟩
   ·simp [Instr.sliceBounds,sb km nm m cap _ e3 e4 (by omega),sb kh nh h m _ f3 f4 h2]
   ·simp [Instr.sliceBounds,sb km nm m cap _ e3 e4 (by omega),sb kh nh h m _ f3 f4 h2,sb kl nl l _ _ g3 g4 h1]
theorem Ws.slice {S:Ua} {k:Nat} {xss:List (List PV)} {B o:Nat} (h:Ws S w k xss B o) (l n:Nat):Ws S w k ((xss.take n).drop l) B (o+l * k):=by
 rw [Rs] at h ⊢
 intro i cs hcs
 rw [List.getElem?_drop,List.getElem?_take] at hcs
 by_cases hi:l+i<n
 ·rw [if_pos hi] at hcs
  have:=h _ cs hcs
  rwa [show o+(l+i) * k=o+l * k+i * k by rw [Nat.add_mul]; omega] at this
 ·rw [if_neg hi] at hcs; cases hcs
theorem Jrk {t:TypeId} {lo hi mx:Option PV} {ρl ρh ρm:Option Value} {p r:PV} {v:Value} (he:Ti P t lo hi mx p=some r) (hv:Rel g p v) (hgw:g.w=w)
  (hl:Jys g lo ρl)
  (hh:Jys g hi ρh)
  (hm:Jys g mx ρm) :
  ∃ z,(Instr.sliceAt t v ρl ρh ρm).run P w=.ok z w∧Rel g r z:=by
 subst hgw
 cases p <;> simp only [Ti] at he <;> try cases he
 case lst o k b xss =>
  split at he
  ·rename_i e x k1 b1 l h m hk e1 e2 e3
   split at he
   ·rename_i hc
    obtain ⟨rfl,c1,c2,c3,c4⟩:=hc
    cases he
    obtain ⟨i,d,q1,q2,q3,q4,q5,q6⟩:=Nf hk
    have hd:=Jhb hv
    simp only [Kg] at hd
    obtain ⟨d1,d2,d3,d4⟩:=hd
    have hlen:((xss.take h).drop l).length=h - l:=by rw [List.length_drop,List.length_take]; omega
    have d1':(h - l) * b≤140737488351232:=Nat.le_trans (Nat.mul_le_mul_right _ (by omega)) d1
    have hAt:∀ (base:Option Addr) (len cap:Nat),len=xss.length→len≤cap→(Instr.sliceAt t (.slice base len cap) ρl ρh ρm).run P g.w =
      .ok (.slice (if (if mx=none then cap else m)=l then base else base.map (·.add (l * k1))) (h - l) ((if mx=none then cap else m) - l)) g.w:=by
     intro base len cap hlen' hcap
     subst hlen'
     have hb:=Rx (P:=P) (w:=g.w) (isS:=true) (cap:=cap) (Cn e1 hl) (Cn e2 hh) (Cn e3 hm) c1 c2 c3 hcap c4
     simp only [Instr.sliceAt,Sem.run_bind,run_underlying q1,Result.andThen_ok,Instr.slice,hb,Vy q2,Sem.run_pure,q5]
    rcases d4 with ⟨hbare,hnil⟩|⟨B,off,cap,rfl,d5,d6,d7⟩
    ·subst hnil
     obtain ⟨base,hv0⟩:∃ base,v=.slice base 0 0:=by rcases hbare with e|⟨a,e⟩ <;> exact ⟨_,e⟩
     subst hv0
     have h0:l=0∧h=0∧m=0:=by simp at c3; omega
     obtain ⟨rfl,rfl,rfl⟩:=h0
     refine ⟨_,hAt base 0 0 rfl (Nat.le_refl _), ?_⟩
     have hz:(if mx=none then 0 else 0)=0:=by split <;> rfl
     have:∀ o',(o'=Own.frozen∨o'=Own.full)→Rel g (.lst o' k1 b ((([]:List (List PV)).take 0).drop 0)) (.slice base 0 0):=by
      intro o' ho'
      rcases ho' with rfl|rfl <;> (simp only [Rel,Qo,Ky,Kg]; exact ⟨by simp,by simp,by simp,.inl ⟨hbare,by simp⟩⟩)
     have h2:=this (if mx≠none∧0=0∨o=Own.full∧hi=none then Own.full else Own.frozen) (by split <;> simp)
     simpa [hz] using h2
    ·refine ⟨_,hAt _ _ _ rfl d5, ?_⟩
     have hfrozen:∀ (o':Own) (base:Option Addr) (cap':Nat),(o'=.frozen∨o'=.full)→(o'=.full→cap'=h - l)→h - l≤cap'→(base=some ⟨B,off+l * k1,none⟩∨(h - l=0∧base=some ⟨B,off,none⟩)) →
       Rel g (.lst o' k1 b ((xss.take h).drop l)) (.slice base (h - l) cap'):=by
      intro o' base cap' ho' hf hcap' hbase
      have hD:Kg g.S g.w (.lst o' k1 b ((xss.take h).drop l)) (.slice base (h - l) cap'):=by
       simp only [Kg]
       rw [hlen]
       refine ⟨d1',by omega,ho',.inr ?_⟩
       rcases hbase with rfl|⟨hz,rfl⟩
       ·exact ⟨B,off+l * k1,cap',rfl,hcap',hf,d7.slice l h⟩
       ·refine ⟨B,off,cap',rfl,hcap',hf, ?_⟩
        have hnil:(xss.take h).drop l=[]:=List.eq_nil_of_length_eq_zero (by rw [hlen]; exact hz)
        rw [hnil]
        simp [Ws]
      rcases ho' with rfl|rfl <;> exact hD
     have hC:m≤(if mx=none then cap else m):=by split <;> omega
     have hfull:(if (mx≠none∧m=h)∨(o=.full∧hi=none) then Own.full else Own.frozen)=.full→(if mx=none then cap else m) - l=h - l:=by
      intro hfull
      split at hfull
      ·rename_i hor
       rcases hor with ⟨hmx,rfl⟩|⟨rfl,rfl⟩
       ·rw [if_neg hmx]
       ·cases mx with
        | some _=>simp at c4
        | none =>
         simp only [if_true]
         have hcap2:cap=xss.length:=by
          have hv':Kg g.S g.w (.lst .full k1 b xss) (.slice (some ⟨B,off,none⟩) xss.length cap):=hv
          simp only [Kg] at hv'
          obtain ⟨_,_,_,⟨hh',_⟩|⟨_,_,_,hh',_,hf,_⟩⟩:=hv'
          ·rcases hh' with hh'|⟨a,hh'⟩
           ·cases hh'
           ·simp only [Value.slice.injEq] at hh'; omega
          ·cases hh'; exact hf trivial
         have:h=xss.length:=by
          rcases Cn e2 hh with ⟨_,_,e⟩|⟨_,_,e,_⟩
          ·exact e
          ·cases e
         omega
      ·cases hfull
     generalize (if mx=none then cap else m)=C at *
     refine hfrozen _ _ _ ?_ hfull (by omega) ?_
     ·split <;> simp
     ·by_cases hz:C=l
      ·exact .inr ⟨by omega,by rw [if_pos hz]⟩
      ·left; rw [if_neg hz]; simp only [Option.map_some,Addr.add_lit]
   ·cases he
  ·cases he
 case nil =>
  have hv':v=.slice none 0 0:=by simpa [Rel,Qo,Ky,Kg] using hv
  subst hv'
  split at he
  ·rename_i x hk e1 e2 e3
   by_cases c4:mx=none∨hi≠none
   ·rw [if_pos c4] at he; cases he
    obtain ⟨e,x2,k1,b1⟩:=x
    obtain ⟨i,d,q1,q2,q3,q4,q5,q6⟩:=Nf hk
    have hb:=Rx (P:=P) (w:=g.w) (isS:=true) (len:=0) (cap:=0) (Cn e1 hl) (Cn e2 hh) (Cn e3 hm) (Nat.le_refl 0) (Nat.le_refl 0) (Nat.le_refl 0) (Nat.le_refl 0) c4
    have hz:(if mx=none then 0 else 0)=0:=by split <;> rfl
    rw [hz] at hb
    exact ⟨.slice none 0 0,by simp only [Instr.sliceAt,Sem.run_bind,run_underlying q1,Result.andThen_ok,Instr.slice,hb,Vy q2,Sem.run_pure,if_true,Nat.sub_self],by simp [Rel,Qo,Ky,Kg]⟩
   ·rw [if_neg c4] at he; cases he
  ·cases he
 case sl l o len k b =>
  split at he
  ·rename_i e x k1 b1 a h hk e1 e2
   split at he
   ·rename_i hc
    obtain ⟨rfl,c1,c2,rfl⟩:=hc
    cases he
    obtain ⟨i,d,q1,q2,q3,q4,q5,q6⟩:=Nf hk
    have hρm:ρm=none:=by cases ρm with|none=>rfl|some _=>exact hm.elim
    subst hρm
    simp only [Rel,Qo,Ky] at hv
    obtain ⟨⟨off,cap,rfl,hcap,hoff⟩,cs,hcs,hlen⟩:=hv
    have hb:=Rx (P:=P) (w:=g.w) (isS:=true) (len:=len) (cap:=cap) (m:=len) (mx:=none) (ρm:=none) (Cn e1 hl) (Cn e2 hh) (.inl ⟨rfl,rfl,rfl⟩) c1 c2 (Nat.le_refl _) hcap (.inl rfl)
    refine ⟨_,by simp only [Instr.sliceAt,Sem.run_bind,run_underlying q1,Result.andThen_ok,Instr.slice,hb,Vy q2,Sem.run_pure,if_true]; rfl, ?_⟩
    simp only [Rel,Qo,Ky]
    have hle:(o+a+(h - a)) * k1≤(o+len) * k1:=Nat.mul_le_mul_right _ (by omega)
    by_cases hz:cap=a
    ·rw [if_pos hz]
     exact ⟨⟨off,cap - a,rfl,by omega,.inr (by omega)⟩,cs,hcs,by omega⟩
    ·rw [if_neg hz]
     refine ⟨⟨off+a * i.size,cap - a,by simp only [Option.map_some,Addr.add_lit],by omega, ?_⟩,cs,hcs,by omega⟩
     rcases hoff with rfl|h0
     ·left; rw [← q5,Nat.add_mul]
     ·right; omega
   ·cases he
  ·cases he
 case ex tk k b N o len =>
  split at he
  ·rename_i e x k1 b1 a h hk e1 e2
   split at he
   ·rename_i hc
    obtain ⟨rfl,c1,c2,rfl⟩:=hc
    cases he
    obtain ⟨i,d,q1,q2,q3,q4,q5,q6⟩:=Nf hk
    have hρm:ρm=none:=by cases ρm with|none=>rfl|some _=>exact hm.elim
    subst hρm
    simp only [Rel,Qo,Ky] at hv
    obtain ⟨⟨base,cap,rfl,hcap,hbase⟩,N',r1,r2,r3⟩:=hv
    have hb:=Rx (P:=P) (w:=g.w) (isS:=true) (len:=len) (cap:=cap) (m:=len) (mx:=none) (ρm:=none) (Cn e1 hl) (Cn e2 hh) (.inl ⟨rfl,rfl,rfl⟩) c1 c2 (Nat.le_refl _) hcap (.inl rfl)
    refine ⟨_,by simp only [Instr.sliceAt,Sem.run_bind,run_underlying q1,Result.andThen_ok,Instr.slice,hb,Vy q2,Sem.run_pure,if_true]; rfl, ?_⟩
    simp only [Rel,Qo,Ky]
    refine ⟨⟨_,_,rfl,by omega,fun hp=>?_⟩,N',r1,r2,fun e=>?_⟩
    ·obtain ⟨B,off,rfl⟩:=hbase (by omega)
     rw [if_neg (by omega)]
     exact ⟨B,off+a * i.size,by simp only [Option.map_some,Addr.add_lit]⟩
    ·rcases r3 e with ⟨s1,s2,s3,s4⟩|⟨B,cap',off,s1,s2,s3,s4,s5,s6⟩
     ·subst s3; subst s4
      obtain rfl:a=0:=by omega
      obtain rfl:h=0:=by omega
      left
      refine ⟨?_,s2,rfl,rfl⟩
      rw [← s1]
      by_cases hz:cap=0
      ·subst hz; simp
      ·rw [if_neg hz]
       cases base with
       | none=>simp
       | some ad=>simp [Addr.add]
     ·simp only [Value.slice.injEq] at s5
      obtain ⟨rfl,_,rfl⟩:=s5
      refine .inr ⟨B,cap',if cap' - o=a then off else off+a * i.size,s1,s2,s3,by omega, ?_, ?_⟩
      ·rw [show cap' - o - a=cap' - (o+a) by omega]
       by_cases hz:cap' - o=a
       ·rw [if_pos hz,if_pos hz]
       ·rw [if_neg hz,if_neg hz]; simp only [Option.map_some,Addr.add_lit]
      ·by_cases hz:cap' - o=a
       ·right; omega
       ·rw [if_neg hz]
        rcases s6 with rfl|s6
        ·left; rw [← q5,Nat.add_mul]
        ·right; omega
   ·cases he
  ·cases he
 case str st =>
  rw [Jbo] at hv; subst hv
  split at he
  ·rename_i l h e1 e2
   split at he
   ·rename_i hc
    obtain ⟨c1,c2,c3,rfl⟩:=hc
    cases he
    have hρm:ρm=none:=by cases ρm with|none=>rfl|some _=>exact hm.elim
    subst hρm
    have hb:=Rx (P:=P) (w:=g.w) (isS:=false) (len:=st.size) (cap:=st.size) (m:=st.size) (mx:=none) (ρm:=none) (Cn e1 hl) (Cn e2 hh) (.inl ⟨rfl,rfl,rfl⟩) c2 c3 (Nat.le_refl _) (Nat.le_refl _) (.inl rfl)
    exact ⟨_,by simp [Instr.sliceAt,Sem.run_bind,run_underlying (Px c1),Instr.slice,hb],Jbo.2 rfl⟩
   ·cases he
  ·cases he
theorem Jv8 {t:TypeId} (h:Kcz P t=true):∃ k e,P.underlying t=some (.map k e):=by
 unfold Kcz at h
 split at h
 ·rename_i k e he; exact ⟨k,e,he⟩
 ·cases h
theorem Jwi (h:Kw Gl S0 w0 s a g) {t ty:TypeId} {p r:PV} {v:Value} (he:Jr9 P s.H t p=some r) (hv:Rel g p v):∃ z,(Builtin.len_ #[t] ty #[v]).run P g.w=.ok z g.w∧Rel g r z:=by
 cases p <;> simp only [Jr9] at he <;> try cases he
 case lst o k b xss =>
  split at he
  ·rename_i hs
   cases he
   obtain ⟨e,hu⟩:=Lb hs
   have hd:=Jhb hv
   simp only [Kg] at hd
   obtain ⟨_,_,_,⟨rfl|⟨_,rfl⟩,rfl⟩|⟨B,off,cap,rfl,_⟩⟩:=hd
   ·exact ⟨_,by simp [Builtin.len_,run_underlying hu,goInt],Uw.2 rfl⟩
   ·exact ⟨_,by simp [Builtin.len_,run_underlying hu,goInt],Uw.2 rfl⟩
   ·exact ⟨_,by simp [Builtin.len_,run_underlying hu,goInt],Uw.2 rfl⟩
  ·cases he
 case sl l o n k b =>
  split at he
  ·rename_i hs
   cases he
   obtain ⟨e,hu⟩:=Lb hs
   simp only [Rel,Qo,Ky] at hv
   obtain ⟨⟨_,_,rfl,_⟩,_⟩:=hv
   exact ⟨_,by simp [Builtin.len_,run_underlying hu,goInt],Uw.2 rfl⟩
  ·cases he
 case ex tk k b N o n =>
  split at he
  ·rename_i hs
   cases he
   obtain ⟨e,hu⟩:=Lb hs
   simp only [Rel,Qo,Ky] at hv
   obtain ⟨⟨_,_,rfl,_⟩,_⟩:=hv
   exact ⟨_,by simp [Builtin.len_,run_underlying hu,goInt],Uw.2 rfl⟩
  ·cases he
 case nil =>
  split at he
  ·rename_i hs
   cases he
   obtain ⟨e,hu⟩:=Lb hs
   have hv':v=.slice none 0 0:=by simpa [Rel,Qo,Ky,Kg] using hv
   subst hv'
   exact ⟨_,by simp [Builtin.len_,run_underlying hu,goInt],Uw.2 rfl⟩
  ·cases he
 case str st =>
  split at he
  ·rename_i hs
   cases he
   rw [Jbo] at hv; subst hv
   exact ⟨_,by simp [Builtin.len_,run_underlying (Px hs),goInt],Uw.2 rfl⟩
  ·cases he
 case mp l =>
  split at he
  ·rename_i es hes
   split at he
   ·rename_i hs
    cases he
    obtain ⟨k,e,hu⟩:=Jv8 hs
    simp only [Rel,Qo,Ky] at hv
    obtain ⟨rfl,_⟩:=hv
    obtain ⟨_,_,_,arr,clock,h1,h2⟩:=h.objs l _ (by rw [h.hH]; exact hes)
    refine ⟨.int .i64 arr.size, ?_,Uw.2 (by rw [h2.1]; simp)⟩
    simp [Builtin.len_,run_underlying hu,goInt,getObj,Sem.run,h1]
   ·cases he
  ·cases he
end
end PM
/-
 THE PURE MACHINE, H: composites; ev1: all operations that yield a value and leave memory alone, and their soundness.
-/
namespace PM
open Go Go.RowKit
theorem Jh8 (off:Nat):∀ (vs:List Value) (k:Nat) (cells:Array Value),off+k+vs.length≤cells.size →
  ((vs.zipIdx k).foldl (fun cs (x:Value×Nat)=>cs.setIfInBounds (off+x.2) x.1) cells).toList=cells.toList.take (off+k)++vs++cells.toList.drop (off+k+vs.length)
 | [],k,cells,_=>by simp
 | v::vs,k,cells,h=>by
  simp only [List.zipIdx_cons,List.foldl_cons]
  have hk:off+k<cells.size:=by simp at h; omega
  rw [Jh8 off vs (k+1) _ (by simp at h ⊢; omega)]
  have e:=list_seg_step cells.toList (off+k) v vs (by simp at h ⊢; omega)
  simpa [Array.toList_setIfInBounds,Nat.add_assoc] using e
section
variable {P:Program} {Gl:Nat→Option (List PV)} {S0:Bs} {w0:World} {s:PSt} {a:Act} {g:GG} {w:World}
/-- A value's cells, where each is known to be one. -/
theorem Rel.cells {p:PV} {v:Value} (h:Rel g p v) (hone:p.cells.all PV.one=true):Kz (Ya g) p.cells v.cells.toList:=by
 cases p
 case agg cs =>
  simp only [Rel,Qo] at h
  obtain ⟨arr,rfl,h2⟩:=h
  exact h2
 case any=>simp [PV.cells,PV.one] at hone
 case tup vs=>simp [PV.cells,PV.one] at hone
 all_goals
  (simp only [Rel,Qo] at h
   obtain ⟨e1,e2⟩:=h.oneCell rfl
   rw [e2]
   exact .cons ⟨h,e1⟩ .nil)
theorem Jn0 {pl:List (Nat×Nat)} {place:Nat→Option (Nat×Nat)} (hpl:∀ i,place i=pl[i]?):∀ (parts:List (Nat×PV)) (vparts:List (Nat×Value)) (cs cs':List PV) (cells:Array Value),
  Kz (fun (x:Nat×PV) (y:Nat×Value)=>x.1=y.1∧Rel g x.2 y.2) parts vparts→Kz (Ya g) cs cells.toList→Jil pl parts cs=some cs' →
  ∃ cells',Instr.fill place cells vparts=some cells'∧Kz (Ya g) cs' cells'.toList
 | [],vparts,cs,cs',cells,hp,hc,h=>by
  rw [hp.nil_left]
  simp only [Jil] at h; cases h
  exact ⟨cells,rfl,hc⟩
 | (i,p)::parts,vparts,cs,cs',cells,hp,hc,h=>by
  obtain ⟨⟨j,v⟩,vparts',rfl,⟨e1,e2⟩,hp'⟩:=hp.cons_left
  simp only at e1 e2
  subst e1
  simp only [Jil] at h
  split at h
  ·rename_i off n hin
   split at h
   ·rename_i hcond
    obtain ⟨c1,c2,c3⟩:=hcond
    have hone:p.cells.all PV.one=true:=c3
    have hcells:=e2.cells hone
    have hvn:v.cells.size=n:=by rw [← c1,hcells.1]; simp
    have hsz:cells.size=cs.length:=by rw [hc.1]; simp
    have hset:=Jh8 off v.cells.toList 0 cells (by simp [hvn]; omega)
    simp only [Nat.add_zero] at hset
    obtain ⟨cells',f1,f2⟩:=Jn0 hpl parts vparts' _ cs' (v.cells.zipIdx.foldl (fun cs (x:Value×Nat)=>cs.setIfInBounds (off+x.2) x.1) cells) hp' (by
     have:(v.cells.zipIdx.foldl (fun cs (x:Value×Nat)=>cs.setIfInBounds (off+x.2) x.1) cells).toList=cells.toList.take off++v.cells.toList++cells.toList.drop (off+n):=by
      rw [← Array.foldl_toList,Array.toList_zipIdx,hset]
      simp [hvn]
     rw [this]
     exact ((hc.take off).append hcells).append (hc.drop (off+n))) h
    refine ⟨cells', ?_,f2⟩
    unfold Instr.fill
    rw [hpl,hin]
    simp only
    rw [if_neg (by simp [hvn]; omega)]
    exact f1
   ·cases h
  ·cases h
theorem Jfl : ∀ {fs:List Field} {pl:List (Nat×Nat)},Jf1 P fs=some pl→fs.mapM (fun f=>(P.info? f.type).map fun i=>(f.offset,i.size))=some pl
 | [],pl,h=>by simp [Jf1] at h; simp [h]
 | f::fs,pl,h=>by
  simp only [Jf1] at h
  split at h
  ·rename_i i r h1 h2
   cases h
   simp [h1,Jfl h2]
  ·cases h
theorem Ji0 {v:Value} {z:List PV} (h:Lt v=.agg z):∃ arr,v=.agg arr∧z=arr.toList.map Fa:=by
 cases v
 case agg arr=>simp only [Lt] at h; cases h; exact ⟨arr,rfl,rfl⟩
 all_goals
  (simp only [Lt] at h
   unfold Fa at h
   split at h <;> cases h)
theorem Jfu {arr:Array Value} (h1:∀ v∈arr,v.oneCell'=true):Kz (Ya g) (arr.toList.map Fa) arr.toList :=
 ⟨by simp,fun i x y hx hy=>by
  rw [List.getElem?_map,hy] at hx
  cases hx
  exact Jot y (h1 y (by have:=List.mem_of_getElem? hy; simpa using this)) g⟩
theorem Jta {t:TypeId} {parts:List (Nat×PV)} {vparts:Array (Nat×Value)} {r:PV} (he:Jj5 P t parts=some r)
  (hp:Kz (fun (x:Nat×PV) (y:Nat×Value)=>x.1=y.1∧Rel g x.2 y.2) parts vparts.toList):∃ z,(Instr.build t vparts).run P w=.ok z w∧Rel g r z:=by
 unfold Jj5 at he
 split at he
 ·rename_i z pl h1 h2
  obtain ⟨cs',h3,rfl⟩:=Option.map_eq_some_iff.1 he
  obtain ⟨i,zv,hi,hzv,hz2,hone⟩:=Rz h1
  obtain ⟨arr,rfl,rfl⟩:=Ji0 hz2
  unfold Ju6 at h2
  split at h2
  ·rename_i fs hu
   have hpl:=Jfl h2
   obtain ⟨cells',f1,f2⟩:=Jn0 (g:=g) (pl:=pl) (place:=(pl.toArray[·]?)) (by simp) _ vparts.toList _ cs' arr hp (Jfu fun v hv=>hone v (by simpa [Value.cells] using hv)) h3
   refine ⟨.agg cells',run_build w t vparts cells' ?_,by simp only [Rel,Qo]; exact ⟨cells',rfl,f2⟩⟩
   unfold Program.built
   simp only [hi,hu,hzv,hpl,Value.cells]
   exact f1
  ·cases h2
 ·rename_i z x h1 h2 h3
  cases he
  obtain ⟨i,zv,hi,hzv,hz2,hone⟩:=Rz h1
  obtain ⟨arr,rfl,rfl⟩:=Ji0 hz2
  obtain ⟨n,row,k⟩:=x
  obtain ⟨e,ie,d,a1,a2,a3,a4,a5⟩:=Jdc h3
  have hv:vparts.toList=[]:=hp.nil_left
  refine ⟨.agg arr,run_build w t vparts arr ?_,by simp only [Rel,Qo]; exact ⟨arr,rfl,Jfu fun v hv=>hone v (by simpa [Value.cells] using hv)⟩⟩
  unfold Program.built
  simp only [hi,a1,hzv,a2,Value.cells,hv,Instr.fill]
 ·cases he
end
/-- All operations that yield a value and leave memory alone. -/
def ev1 (P:Program) (Gl:Nat→Option (List PV)) (op:Op) (ρ:Operand→PV) (H:Nat→Option Uk) (X:XT):Option PV :=
 match op with
 | .move x=>some (ρ x)
 | .assign x=>some (ρ x)
 | .pick c x y=>match ρ c with|.bool c=>some (if c=true then ρ x else ρ y)|_=>none
 | .nilCheck x=>match ρ x with|.ref l o=>some (.ref l o)|.cptr cs=>some (.cptr cs)|.gptr i o=>some (.gptr i o)|.fn f caps=>some (.fn f caps)|_=>none
 | .binOp op t x y _=>Jl8 P op t (ρ x) (ρ y)
 | .unOp op _ x=>Kdt op (ρ x)
 | .convert src dst x=>Jun P src dst (ρ x)
 | .fieldAddr t x f=>Jb9 P t f (ρ x)
 | .field t x f=>Jqf P t f (ρ x)
 | .indexAddr t x i=>Oa P t (ρ x) (ρ i)
 | .index t x i=>Jgc P t (ρ x) (ρ i)
 | .load t x=>Ts P Gl H X t (ρ x)
 | .extract x i=>match ρ x with|.tup vs=>vs[i]?|_=>none
 | .slice t x lo hi mx=>Ti P t (lo.map ρ) (hi.map ρ) (mx.map ρ) (ρ x)
 | .build t parts=>Jj5 P t (parts.toList.map fun x=>(x.1,ρ x.2))
 | .lookup t x k ok=>match ρ x with
  | .mp l=>match H l with
   | some (.map es)=>Rt P t es (ρ k) ok
   | some (.mapo es k' b tk)=>Py P t es k' b tk (ρ k) ok
   | _=>none
  | .fmp ks vs=>Rt P t (ks.zip vs) (ρ k) ok
  | _=>none
 | .makeFunc (.func f) first caps=>if first.toList=[]∧((caps.toList.map ρ).all Fm)=true then some (.fn f (caps.toList.map ρ)) else none
 | .call c=>match c.callee,c.args.toList,c.argTypes.toList with
  | .builtin .len,[x],[t]=>Jr9 P H t (ρ x)
  | .builtin .min,[x,y],_=>Oy false (ρ x) (ρ y)
  | .builtin .max,[x,y],_=>Oy true (ρ x) (ρ y)
  | _,_,_=>none
 | _=>none
section
variable {P:Program} {Gl:Nat→Option (List PV)} {S0:Bs} {w0:World} {s:PSt} {a:Act} {g:GG} {w:World}
theorem Jkx {α:Type} {xs:Array α} {x:α} (h:xs.toList=[x]):xs=#[x]:=Array.toList_inj.1 (by simpa using h)
theorem Nh {α:Type} {xs:Array α} {x y:α} (h:xs.toList=[x,y]):xs=#[x,y]:=Array.toList_inj.1 (by simpa using h)
theorem Jtk {α:Type} {xs:Array α} (h:xs.toList=[]):xs=#[]:=Array.toList_inj.1 (by simpa using h)
theorem Jlb (h:Kw Gl S0 w0 s a g) (x:Option Operand):Jys g (x.map s.ev) (x.map a.eval):=by
 cases x with
 | none=>trivial
 | some x=>exact h.ev x
theorem Kb8 {p q r:PV} {ts:Array TypeId} {ty:TypeId} {u v:Value} (h:Oy false p q=some r) (hu:Rel g p u) (hv:Rel g q v) :
  ∃ z,(Builtin.min_ ts ty #[u,v]).run P w=.ok z w∧Rel g r z:=by
 cases p <;> cases q <;> simp only [Oy] at h <;> try cases h
 rename_i k x k' y
 rw [Uw] at hu hv
 subst hu; subst hv
 by_cases hk:k=k'
 ·rw [if_pos hk] at h; cases h
  refine ⟨_,by simp [Builtin.min_,Builtin.min2]; rfl,Uw.2 ?_⟩
  simp only [Bool.false_eq_true,if_false]
  congr 1
  show (if y<x then y else x)=min x y
  split <;> omega
 ·rw [if_neg hk] at h; cases h
theorem Kb0 {p q r:PV} {ts:Array TypeId} {ty:TypeId} {u v:Value} (h:Oy true p q=some r) (hu:Rel g p u) (hv:Rel g q v) :
  ∃ z,(Builtin.max_ ts ty #[u,v]).run P w=.ok z w∧Rel g r z:=by
 cases p <;> cases q <;> simp only [Oy] at h <;> try cases h
 rename_i k x k' y
 rw [Uw] at hu hv
 subst hu; subst hv
 by_cases hk:k=k'
 ·rw [if_pos hk] at h; cases h
  refine ⟨_,by simp [Builtin.max_,Builtin.max2]; rfl,Uw.2 ?_⟩
  simp only [if_true]
  congr 1
  show (if y>x then y else x)=max x y
  split <;> omega
 ·rw [if_neg hk] at h; cases h
theorem Rel.ofFlat {p:PV} {v:Value} (h:Kg g.S g.w p v) (hf:Sb p=true):Qo g p v:=by
 cases p
 case agg cs =>
  simp only [Kg] at h
  obtain ⟨arr,h1,h2⟩:=h
  simp only [Qo]
  refine ⟨arr,h1,((Ww _ _).1 h2).1,fun i x y hx hy=>?_⟩
  have h3:=((Ww _ _).1 h2).2 i x y hx hy
  have h4:=List.all_eq_true.1 hf x (List.mem_of_getElem? hx)
  exact ⟨.of_data h3 h4,(h3.oneCell h4).1⟩
 case tup vs=>simp [Sb] at hf
 case any=>simp [Sb] at hf
 all_goals exact Ky.relA' (.of_data h rfl)
theorem Jog {t:TypeId} {z:PV} (h:Jd5 P t=some z):∃ i zv,P.info? t=some i∧i.zero=some zv∧Rel g z zv:=by
 obtain ⟨i,zv,hi,h1,h2,hone⟩:=Rz h
 refine ⟨i,zv,hi,h1, ?_⟩
 rw [← h2]
 cases zv
 case agg arr =>
  simp only [Lt,Rel,Qo]
  exact ⟨arr,rfl,Jfu fun v hv=>hone v (by simpa [Value.cells] using hv)⟩
 all_goals
  (have:=Jad g
   simp only [Lt]
   exact this _)
theorem Rp {t:TypeId} {d:TypeDesc} {z:PV} (h:Jcj P t=some (d,z)):∃ k e,P.underlying t=some (.map k e)∧P.underlying k=some d∧Jd5 P e=some z∧Sb z=true∧Jhv P k d=true:=by
 unfold Jcj at h
 split at h
 ·rename_i k e hm
  split at h
  ·rename_i d' z' hd hz
   split at h
   ·rename_i hf; cases h; exact ⟨k,e,hm,hd,hz,hf.1,hf.2⟩
   ·cases h
  ·cases h
 ·cases h
theorem Juw {S:Ua} {d:TypeDesc} {k:PV} {v:Value} (hs:∀ fs,d≠.struct fs) (h:Gu d k=true) (hr:Kg S w k v):MapKept.IsKey d v:=by
 cases d <;> cases k <;> simp [Gu] at h <;> first|exact absurd rfl (hs _)|(simp only [Kg] at hr; subst hr; simp [MapKept.IsKey,h])
theorem Jat {S:Ua} {d:TypeDesc} {k e:PV} {u v:Value} {b:Bool} (hs:∀ fs,d≠.struct fs) (hd:Gu d k=true) (hk:Kg S w k u) (he:Kg S w e v) (h:Jah k e=some b):Instr.sameNow d u v=some b∧(b=true→v=u):=by
 cases d <;> first|exact absurd rfl (hs _)|skip
 all_goals (cases k <;> simp [Gu] at hd)
 all_goals (cases e <;> simp [Jah] at h)
 all_goals (simp only [Kg] at hk he; subst hk; subst he)
 case int.int.int k3 k1 a k2 c =>
  obtain ⟨h1,h2⟩:=h
  subst h1; subst hd; subst h2
  simp only [Instr.sameNow,if_true,decide_eq_true_eq]
  exact ⟨by rw [Joy],fun e=>by rw [e]⟩
 case bool.bool.bool a c =>
  subst h
  simp only [Instr.sameNow,decide_eq_true_eq]
  exact ⟨by cases a <;> cases c <;> rfl,fun e=>by rw [e]⟩
 case string.str.str a c =>
  subst h
  simp only [Instr.sameNow,decide_eq_true_eq]
  refine ⟨?_,fun e=>by rw [e]⟩
  congr 1
  by_cases hac:a=c
  ·subst hac; simp [MapKept.bytes_beq]
  ·rw [decide_eq_false hac]
   cases hb:(a == c) with
   | false=>rfl
   | true=>exact absurd ((MapKept.bytes_beq a c).1 hb) hac
theorem Jlx {S:Ua} {d:TypeDesc} {k:PV} {kv:Value} (hs:∀ fs,d≠.struct fs) (hd:Gu d k=true) (hk:Kg S w k kv):∀ {es:List (PV×PV)} {l:List MapEntry} (i:Nat) {r:Option PV},Kz (Jgi S w) es l→Jc4 k es=some r →
  (r=none∧Instr.findNow d kv l i=some none)∨∃ j m p,r=some p∧Instr.findNow d kv l i=some (some (i+j,m.val))∧l[j]?=some m∧m.key=kv∧Kg S w p m.val∧Sb p=true
 | [],l,i,r,ha,h=>by
  rw [ha.nil_left]
  simp only [Jc4] at h; cases h
  exact .inl ⟨rfl,rfl⟩
 | e::es,l,i,r,ha,h=>by
  obtain ⟨m,l',rfl,h1,h2⟩:=ha.cons_left
  simp only [Jc4] at h
  split at h
  ·rename_i hq
   cases h
   obtain ⟨h3,h4⟩:=Jat hs hd hk h1.1 hq
   exact .inr ⟨0,m,e.2,rfl,by simp [Instr.findNow,h3],rfl,h4 rfl,h1.2.1,h1.2.2⟩
  ·rename_i hq
   obtain ⟨h3,_⟩:=Jat hs hd hk h1.1 hq
   rcases Jlx hs hd hk (i+1) h2 h with ⟨h4,h5⟩|⟨j,m',p,h4,h5,h6,h7⟩
   ·exact .inl ⟨h4,by simp [Instr.findNow,h3,h5]⟩
   ·exact .inr ⟨j+1,m',p,h4,by simp [Instr.findNow,h3,h5]; omega,by simpa using h6,h7⟩
  ·cases h
/-! Keys of two numbers. -/
theorem Jc8 {S:Ua} {x y:Int} {v:Value}:Kg S w (.agg [.int .i64 x,.int .i64 y]) v↔v=.agg #[.int .i64 x,.int .i64 y]:=by
 simp only [Kg,Hq]
 constructor
 ·rintro ⟨arr,rfl,v1,vs,e1,rfl,v2,vs2,rfl,rfl,rfl⟩
  congr 1
  exact Array.ext' e1
 ·rintro rfl
  exact ⟨_,rfl,_,_,rfl,rfl,_,_,rfl,rfl,rfl⟩
theorem Gf {fs:Array Field} {k:PV} (h:Gu (.struct fs) k=true):∃ x y,k=.agg [.int .i64 x,.int .i64 y]:=by
 unfold Gu at h
 split at h <;> first|exact ⟨_,_,rfl⟩|contradiction|cases h
theorem Jr2 {x y:Int} {q:PV} {b:Bool} (h:Jah (.agg [.int .i64 x,.int .i64 y]) q=some b):∃ x' y',q=.agg [.int .i64 x',.int .i64 y']∧b=(decide (x=x')&&decide (y=y')):=by
 unfold Jah at h
 split at h <;> first|contradiction|skip
 ·rename_i h1
  simp only [PV.agg.injEq,List.cons.injEq,PV.int.injEq,true_and,and_true] at h1
  obtain ⟨rfl,rfl⟩:=h1
  cases h
  exact ⟨_,_,rfl,rfl⟩
theorem Jb4 {x y:Int} {v:Value} (h:Rel g (.agg [.int .i64 x,.int .i64 y]) v):Kg g.S g.w (.agg [.int .i64 x,.int .i64 y]) v:=by
 simp only [Rel,Qo] at h
 obtain ⟨arr,rfl,h2⟩:=h
 obtain ⟨v1,l1,q1,r1,h3⟩:=h2.cons_left
 obtain ⟨v2,l2,q2,r2,h4⟩:=h3.cons_left
 have e1:v1=.int .i64 x:=by simpa [Ky,Kg] using r1.1
 have e2:v2=.int .i64 y:=by simpa [Ky,Kg] using r2.1
 rw [Jc8]
 congr 1
 refine Array.ext' ?_
 rw [q1,q2,h4.nil_left,e1,e2]
theorem Jkd {kt:TypeId} {fs:Array Field} (hu:P.underlying kt=some (.struct fs)) (h:Jiq P kt=true):(∃ f1 f2,fs=#[f1,f2]∧P.underlying f1.type=some (.int .i64)∧P.underlying f2.type=some (.int .i64)∧f1.offset=0∧f2.offset=1)∧Jf0 P 10000 kt=some [.i .i64,.i .i64]:=by
 unfold Jiq at h
 rw [hu] at h
 simp only [Bool.and_eq_true] at h
 obtain ⟨h1,h2⟩:=h
 have i64:∀ {t},Jpd P t=true→P.underlying t=some (.int .i64):=fun {t} e=>by
  unfold Jpd at e
  split at e
  ·assumption
  ·cases e
 constructor
 ·split at h1
  ·rename_i f1 f2 hf
   simp only [Bool.and_eq_true,decide_eq_true_eq] at h1
   exact ⟨f1,f2,Array.ext' hf,i64 h1.1.1.1,i64 h1.1.1.2,h1.1.2,h1.2⟩
  ·cases h1
 ·split at h2
  ·assumption
  ·cases h2
theorem Jgb {kt:TypeId} {fs:Array Field} (hu:P.underlying kt=some (.struct fs)) (h:Jiq P kt=true) (e:Bool) (n:Nat) (x y:Int):(Instr.checkKey e (n+2) kt (.agg #[.int .i64 x,.int .i64 y])).run P w=.ok () w:=by
 obtain ⟨⟨f1,f2,rfl,h1,h2,h3,h4⟩,_⟩:=Jkd hu h
 have c1:∀ z:Int,(Instr.checkKey e (n+1) f1.type (.int .i64 z)).run P w=.ok () w:=fun z=>by simp [Instr.checkKey,run_underlying h1]
 have c2:∀ z:Int,(Instr.checkKey e (n+1) f2.type (.int .i64 z)).run P w=.ok () w:=fun z=>by simp [Instr.checkKey,run_underlying h2]
 have a1:=La h1 w
 have a2:=La h2 w
 simp only [Cx] at a1 a2
 unfold Instr.checkKey
 by_cases n1:f1.name = "_" <;> by_cases n2:f2.name = "_" <;> simp [run_underlying hu,part,a1,a2,h3,h4,c1,c2,n1,n2]
theorem Jl6 {kt:TypeId} {fs:Array Field} (hu:P.underlying kt=some (.struct fs)) (h:Jiq P kt=true) (x y x' y':Int):(Op.equal kt (.agg #[.int .i64 x,.int .i64 y]) (.agg #[.int .i64 x',.int .i64 y'])).run P w=.ok (decide (x=x')&&decide (y=y')) w:=by
 have:=Ma (P:=P) 10000 kt _ _ [.int .i64 x,.int .i64 y] [.int .i64 x',.int .i64 y'] w (Jkd hu h).2 hu rfl rfl
 simp only [Ja1,Cx,if_true,Wt,Jbp,Joy,Bool.and_true] at this
 exact this
theorem Jge {S:Ua} {kt:TypeId} {fs:Array Field} (hu:P.underlying kt=some (.struct fs)) (hp:Jiq P kt=true) {x y:Int} {q:PV} {u:Value} {b:Bool} (hq:Jah (.agg [.int .i64 x,.int .i64 y]) q=some b) (hr:Kg S w q u) :
  (Op.equal kt (.agg #[.int .i64 x,.int .i64 y]) u).run P w=.ok b w∧(b=true→u=.agg #[.int .i64 x,.int .i64 y]):=by
 obtain ⟨x',y',e1,rfl⟩:=Jr2 hq
 rw [e1,Jc8] at hr
 rw [hr]
 refine ⟨Jl6 hu hp _ _ _ _,fun hb=>?_⟩
 simp only [Bool.and_eq_true,decide_eq_true_eq] at hb
 rw [hb.1,hb.2]
theorem Jbf {S:Ua} {kt:TypeId} {fs:Array Field} (hu:P.underlying kt=some (.struct fs)) (hp:Jiq P kt=true) {x y:Int}:∀ {es:List (PV×PV)} {l:List MapEntry} (i:Nat) {r:Option PV},Kz (Jgi S w) es l→Jc4 (.agg [.int .i64 x,.int .i64 y]) es=some r →
  (r=none∧(Instr.findAsking kt (.agg #[.int .i64 x,.int .i64 y]) l i).run P w=.ok none w)∨∃ j m p,r=some p∧(Instr.findAsking kt (.agg #[.int .i64 x,.int .i64 y]) l i).run P w=.ok (some (i+j,m.val)) w∧l[j]?=some m∧m.key=.agg #[.int .i64 x,.int .i64 y]∧Kg S w p m.val∧Sb p=true
 | [],l,i,r,ha,h=>by
  rw [ha.nil_left]
  simp only [Jc4] at h; cases h
  exact .inl ⟨rfl,by simp [Instr.findAsking]⟩
 | e::es,l,i,r,ha,h=>by
  obtain ⟨m,l',rfl,h1,h2⟩:=ha.cons_left
  simp only [Jc4] at h
  split at h
  ·rename_i hq
   cases h
   obtain ⟨h3,h4⟩:=Jge hu hp hq h1.1
   exact .inr ⟨0,m,e.2,rfl,by simp [Instr.findAsking,h3],rfl,h4 rfl,h1.2.1,h1.2.2⟩
  ·rename_i hq
   obtain ⟨h3,_⟩:=Jge hu hp hq h1.1
   rcases Jbf hu hp (i+1) h2 h with ⟨h4,h5⟩|⟨j,m',p,h4,h5,h6,h7⟩
   ·exact .inl ⟨h4,by simp [Instr.findAsking,h3,h5]⟩
   ·exact .inr ⟨j+1,m',p,h4,by simp [Instr.findAsking,h3,h5]; omega,by simpa using h6,h7⟩
  ·cases h
theorem Xz {kt:TypeId} {fs:Array Field} (hu:P.underlying kt=some (.struct fs)) (v:Value) (l:List MapEntry):(Instr.findKey kt v l).run P w=(Instr.findAsking kt v l 0).run P w:=by
 cases l with
 | nil=>simp [Instr.findKey,run_underlying hu,Instr.findNow,Instr.findAsking]
 | cons m l=>simp [Instr.findKey,run_underlying hu,Instr.findNow,Instr.sameNow]
/-- What the search for a key does. -/
theorem Jwh {S:Ua} {kt:TypeId} {d:TypeDesc} {k:PV} {kv:Value} {es:List (PV×PV)} {l:List MapEntry} {r:Option PV} (hu:P.underlying kt=some d) (ht:Jhv P kt d=true) (hd:Gu d k=true) (hk:Kg S w k kv) (ha:Kz (Jgi S w) es l) (h:Jc4 k es=some r) :
  (r=none∧(Instr.findKey kt kv l).run P w=.ok none w)∨∃ j m p,r=some p∧(Instr.findKey kt kv l).run P w=.ok (some (j,m.val)) w∧l[j]?=some m∧m.key=kv∧Kg S w p m.val∧Sb p=true:=by
 by_cases hs:∃ fs,d=.struct fs
 ·obtain ⟨fs,rfl⟩:=hs
  obtain ⟨x,y,rfl⟩:=Gf hd
  rw [Jc8] at hk
  subst hk
  rw [Xz hu]
  rcases Jbf hu ht 0 ha h with h1|⟨j,m,p,h1,h2,h3⟩
  ·exact .inl h1
  ·exact .inr ⟨j,m,p,h1,by simpa using h2,h3⟩
 ·have hs:∀ fs,d≠.struct fs:=fun fs e=>hs ⟨fs,e⟩
  rcases Jlx hs hd hk 0 ha h with ⟨h1,h2⟩|⟨j,m,p,h1,h2,h3⟩
  ·exact .inl ⟨h1,MapKept.run_findKey hu h2⟩
  ·exact .inr ⟨j,m,p,h1,MapKept.run_findKey hu (by simpa using h2),h3⟩
theorem Mq {S:Ua} {kt:TypeId} {d:TypeDesc} {k:PV} {kv:Value} (hu:P.underlying kt=some d) (ht:Jhv P kt d=true) (hd:Gu d k=true) (hk:Kg S w k kv) (e:Bool):(Instr.checkKey e 10000 kt kv).run P w=.ok () w:=by
 by_cases hs:∃ fs,d=.struct fs
 ·obtain ⟨fs,rfl⟩:=hs
  obtain ⟨x,y,rfl⟩:=Gf hd
  rw [Jc8] at hk
  subst hk
  exact Jgb hu ht e 9998 x y
 ·exact MapKept.run_checkKey hu (Juw (fun fs e=>hs ⟨fs,e⟩) hd hk) e 9999
theorem Jgt {S:Ua} {d:TypeDesc} {k:PV} {kv:Value} (hd:Gu d k=true) (hk:Kg S w k kv):(Instr.keyThatStays kv kv).run P w=.ok kv w:=by
 by_cases hs:∃ fs,d=.struct fs
 ·obtain ⟨fs,rfl⟩:=hs
  obtain ⟨x,y,rfl⟩:=Gf hd
  rw [Jc8] at hk
  subst hk
  simp [Instr.keyThatStays,Instr.sameBits]
 ·exact MapKept.run_keyThatStays (Juw (fun fs e=>hs ⟨fs,e⟩) hd hk)
theorem Jae {t:TypeId} {mv:Value} {arr:Array MapEntry} {es:List (PV×PV)} {k r:PV} {kv:Value} {ok:Bool} (hb:(mv=.map none∧arr=#[])∨∃ B clock,mv=.map (some B)∧g.w.heap[B]?=some (.map arr clock)) (he:Kz (Jgi g.S g.w) es arr.toList) (hk:Rel g k kv)
  (h:Rt P t es k ok=some r):∃ z,(Instr.lookup t mv kv ok).run P g.w=.ok z g.w∧Rel g r z:=by
 unfold Rt at h
 split at h
 ·rename_i d z hm
  obtain ⟨kt,et,m1,m2,m3,m4,m5⟩:=Rp hm
  split at h
  ·rename_i hd
   obtain ⟨x,hx,rfl⟩:=Option.map_eq_some_iff.1 h
   have hkd:Kg g.S g.w k kv:=by
    revert hk hd
    cases k <;> intro hk hd <;> first|exact hk|(cases d <;> simp [Gu] at hd; done)|skip
    cases d <;> simp only [Gu] at hd <;> try cases hd
    obtain ⟨x,y,e⟩:=Gf hd
    rw [e] at hk ⊢
    exact Jb4 hk
   obtain ⟨iz,zv,z1,z2,z0⟩:=Jog (g:=g) m3
   have z3:Qo g z zv:=by
    revert z0 m4
    cases z <;> intro m4 z0 <;> first|exact z0|(simp [Sb] at m4)
   have z3:=Jzw (P:=P) (t:=t) z3
   have hc:=Mq (P:=P) (w:=g.w) m2 m5 hd hkd arr.isEmpty
   rcases Jwh (P:=P) m2 m5 hd hkd he hx with ⟨rfl,hf⟩|⟨j,m,p,rfl,hf,_,_,h5,h6⟩
   ·refine ⟨if ok then .tuple #[zv,.bool false] else zv, ?_, ?_⟩
    ·rcases hb with ⟨rfl,rfl⟩|⟨B,clock,rfl,hb⟩
     ·simp at hc hf; simp [Instr.lookup,run_underlying m1,hc,hf,zeroValue,typeInfo,z1,z2]
     ·simp [Instr.lookup,run_underlying m1,MapKept.run_getObj_map hb,hc,hf,zeroValue,typeInfo,z1,z2]
    ·cases ok
     ·exact z3.rel
     ·simp only [if_true,Rel,Option.getD_none,Option.isSome_none]
      exact ⟨_,rfl,.cons z3 (.cons (by simp [Qo,Ky,Kg]) .nil)⟩
   ·refine ⟨if ok then .tuple #[m.val,.bool true] else m.val, ?_, ?_⟩
    ·rcases hb with ⟨rfl,rfl⟩|⟨B,clock,rfl,hb⟩
     ·simp at hc hf; simp [Instr.lookup,run_underlying m1,hc,hf]
     ·simp [Instr.lookup,run_underlying m1,MapKept.run_getObj_map hb,hc,hf]
    ·have h7:Qo g p m.val:=Rel.ofFlat h5 h6
     cases ok
     ·exact h7.rel
     ·simp only [if_true,Rel,Option.getD_some,Option.isSome_some]
      exact ⟨_,rfl,.cons h7 (.cons (by simp [Qo,Ky,Kg]) .nil)⟩
  ·cases h
 ·cases h
theorem Joc {S:Ua} {d:TypeDesc} {k v:PV} {kv:Value} (hs:∀ fs,d≠.struct fs) (hd:Gu d k=true) (hk:Kg S w k kv):∀ {es es':List (PV×PV)} {l:List MapEntry} (i:Nat),Kz (Jgi S w) es l→Jdy k v es=some es' →
  (es'=es++[(k,v)]∧Instr.findNow d kv l i=some none)∨∃ j m,Instr.findNow d kv l i=some (some (i+j,m.val))∧l[j]?=some m∧m.key=kv∧es'=es.set j (k,v)
 | [],es',l,i,ha,h=>by
  rw [ha.nil_left]
  simp only [Jdy] at h; cases h
  exact .inl ⟨rfl,rfl⟩
 | e::es,es',l,i,ha,h=>by
  obtain ⟨m,l',rfl,h1,h2⟩:=ha.cons_left
  simp only [Jdy] at h
  split at h
  ·rename_i hq
   cases h
   obtain ⟨h3,h4⟩:=Jat hs hd hk h1.1 hq
   exact .inr ⟨0,m,by simp [Instr.findNow,h3],rfl,h4 rfl,rfl⟩
  ·rename_i hq
   obtain ⟨h3,_⟩:=Jat hs hd hk h1.1 hq
   obtain ⟨es1,hp,rfl⟩:=Option.map_eq_some_iff.1 h
   rcases Joc hs hd hk (i+1) h2 hp with ⟨rfl,h5⟩|⟨j,m',h5,h6,h7,rfl⟩
   ·exact .inl ⟨rfl,by simp [Instr.findNow,h3,h5]⟩
   ·exact .inr ⟨j+1,m',by simp [Instr.findNow,h3,h5]; omega,by simpa using h6,h7,rfl⟩
  ·cases h
theorem Jbe {S:Ua} {kt:TypeId} {fs:Array Field} (hu:P.underlying kt=some (.struct fs)) (hp:Jiq P kt=true) {x y:Int} {v:PV}:∀ {es es':List (PV×PV)} {l:List MapEntry} (i:Nat),Kz (Jgi S w) es l→Jdy (.agg [.int .i64 x,.int .i64 y]) v es=some es' →
  (es'=es++[(.agg [.int .i64 x,.int .i64 y],v)]∧(Instr.findAsking kt (.agg #[.int .i64 x,.int .i64 y]) l i).run P w=.ok none w)∨∃ j m,(Instr.findAsking kt (.agg #[.int .i64 x,.int .i64 y]) l i).run P w=.ok (some (i+j,m.val)) w∧l[j]?=some m∧m.key=.agg #[.int .i64 x,.int .i64 y]∧es'=es.set j (.agg [.int .i64 x,.int .i64 y],v)
 | [],es',l,i,ha,h=>by
  rw [ha.nil_left]
  simp only [Jdy] at h; cases h
  exact .inl ⟨rfl,by simp [Instr.findAsking]⟩
 | e::es,es',l,i,ha,h=>by
  obtain ⟨m,l',rfl,h1,h2⟩:=ha.cons_left
  simp only [Jdy] at h
  split at h
  ·rename_i hq
   cases h
   obtain ⟨h3,h4⟩:=Jge hu hp hq h1.1
   exact .inr ⟨0,m,by simp [Instr.findAsking,h3],rfl,h4 rfl,rfl⟩
  ·rename_i hq
   obtain ⟨h3,_⟩:=Jge hu hp hq h1.1
   obtain ⟨es2,hp2,rfl⟩:=Option.map_eq_some_iff.1 h
   rcases Jbe hu hp (i+1) h2 hp2 with ⟨rfl,h5⟩|⟨j,m',h5,h6,h7,rfl⟩
   ·exact .inl ⟨rfl,by simp [Instr.findAsking,h3,h5]⟩
   ·exact .inr ⟨j+1,m',by simp [Instr.findAsking,h3,h5]; omega,by simpa using h6,h7,rfl⟩
  ·cases h
theorem Jmt {S:Ua} {kt:TypeId} {d:TypeDesc} {k v:PV} {kv:Value} {es es':List (PV×PV)} {l:List MapEntry} (hu:P.underlying kt=some d) (ht:Jhv P kt d=true) (hd:Gu d k=true) (hk:Kg S w k kv) (ha:Kz (Jgi S w) es l) (h:Jdy k v es=some es') :
  (es'=es++[(k,v)]∧(Instr.findKey kt kv l).run P w=.ok none w)∨∃ j m,(Instr.findKey kt kv l).run P w=.ok (some (j,m.val)) w∧l[j]?=some m∧m.key=kv∧es'=es.set j (k,v):=by
 by_cases hs:∃ fs,d=.struct fs
 ·obtain ⟨fs,rfl⟩:=hs
  obtain ⟨x,y,rfl⟩:=Gf hd
  rw [Jc8] at hk
  subst hk
  rw [Xz hu]
  rcases Jbe hu ht 0 ha h with h1|⟨j,m,h1,h2⟩
  ·exact .inl h1
  ·exact .inr ⟨j,m,by simpa using h1,h2⟩
 ·have hs:∀ fs,d≠.struct fs:=fun fs e=>hs ⟨fs,e⟩
  rcases Joc hs hd hk 0 ha h with ⟨h1,h2⟩|⟨j,m,h1,h2⟩
  ·exact .inl ⟨h1,MapKept.run_findKey hu h2⟩
  ·exact .inr ⟨j,m,MapKept.run_findKey hu (by simpa using h1),h2⟩
theorem Jko {k:PV} (kk b:Nat):∀ {es:List (PV×List (List PV))} {r:Option (Nat×List (List PV))},Jgp k es=some r →
  Jdy k .any (Jma kk b es)=some (match r with|some (i,_)=>(Jma kk b es).set i (k,.any)|none=>Jma kk b es++[(k,.any)])∧∀ i xss,r=some (i,xss)→∃ key,es[i]?=some (key,xss)
 | [],r,h=>by
  simp only [Jgp] at h; cases h
  exact ⟨rfl,fun _ _ e=>by cases e⟩
 | e::es,r,h=>by
  simp only [Jgp] at h
  split at h
  ·rename_i hq
   cases h
   refine ⟨by simp [Jma,Jdy,hq],fun i xss e1=>?_⟩
   cases e1; exact ⟨e.1,rfl⟩
  ·rename_i hq
   obtain ⟨r',h1,rfl⟩:=Option.map_eq_some_iff.1 h
   obtain ⟨i1,i2⟩:=Jko kk b h1
   unfold Jma at i1 ⊢
   refine ⟨?_,fun i xss e1=>?_⟩
   ·simp only [List.map_cons,Jdy,hq,i1,Option.map_some]
    cases r' <;> simp
   ·cases r' with
    | none=>cases e1
    | some y =>
     obtain ⟨y1,y2⟩:=y
     simp only [Option.map_some,Option.some.injEq,Prod.mk.injEq] at e1
     obtain ⟨rfl,rfl⟩:=e1
     obtain ⟨key,hk⟩:=i2 y1 y2 rfl
     exact ⟨key,by simpa using hk⟩
  ·cases h
/-- The place in memory where a key is, in such a map. -/
theorem Jom {kt:TypeId} {d:TypeDesc} {k:PV} {kv:Value} {kk b:Nat} {tk:Nat→Nat} {es:List (PV×List (List PV))} {arr:Array MapEntry} {r:Option (Nat×List (List PV))} (hu:P.underlying kt=some d) (ht:Jhv P kt d=true) (hd:Gu d k=true) (hk:Kg g.S g.w k kv)
  (hsz:arr.size=es.length) (hE:∀ (i:Nat) (e:PV×List (List PV)) (m:MapEntry),es[i]?=some e→arr[i]?=some m→Kg g.S g.w e.1 m.key∧Ky g (.lst (.own (tk i)) kk b e.2) m.val) (h:Jgp k es=some r) :
  (r=none∧(Instr.findKey kt kv arr.toList).run P g.w=.ok none g.w)∨∃ i xss m key,r=some (i,xss)∧es[i]?=some (key,xss)∧(Instr.findKey kt kv arr.toList).run P g.w=.ok (some (i,m.val)) g.w∧arr[i]?=some m∧m.key=kv:=by
 have hA:Kz (Jgi g.S g.w) (Jma kk b es) arr.toList:=⟨by simp [Jma,hsz],fun i p m hp hm=>by
  simp only [Jma,List.getElem?_map] at hp
  obtain ⟨e,he,rfl⟩:=Option.map_eq_some_iff.1 hp
  obtain ⟨q1,q2⟩:=hE i e m he (by simpa using hm)
  exact ⟨q1,q2.1,rfl⟩⟩
 obtain ⟨i1,i2⟩:=Jko kk b h
 have hlen:(Jma kk b es).length=es.length:=by simp [Jma]
 rcases Jmt (P:=P) hu ht hd hk hA i1 with ⟨e1,hf⟩|⟨j,m,hf,h3,h4,e1⟩
 ·refine .inl ⟨?_,hf⟩
  cases r with
  | none=>rfl
  | some y =>
   exfalso
   have:=congrArg List.length e1
   simp at this
 ·cases r with
  | none =>
   exfalso
   have:=congrArg List.length e1
   simp at this
  | some y =>
   obtain ⟨i,xss⟩:=y
   obtain ⟨key,hkey⟩:=i2 i xss rfl
   have hil:i<(Jma kk b es).length:=by rw [hlen]; exact (List.getElem?_eq_some_iff.1 hkey).1
   have hij:i=j:=by
    by_cases hij:i=j
    ·exact hij
    ·exfalso
     have h5:=congrArg (fun l:List (PV×PV)=>l[i]?) e1
     simp only [List.getElem?_set,if_true,hil] at h5
     rw [if_neg (fun e=>hij e.symm)] at h5
     have hm:i<arr.toList.length:=by rw [← hA.1]; exact hil
     have h6:=(hA.2 i _ arr.toList[i] h5.symm (List.getElem?_eq_getElem hm)).2.2
     simp [Sb] at h6
   subst hij
   exact .inr ⟨i,xss,m,key,rfl,hkey,hf,by simpa using h3,h4⟩
theorem Jmw {t:TypeId} {B:Nat} {clock:Nat} {arr:Array MapEntry} {es:List (PV×List (List PV))} {kk b:Nat} {tk:Nat→Nat} {k r:PV} {kv:Value} {ok:Bool} (hb:g.w.heap[B]?=some (.map arr clock))
  (hsz:arr.size=es.length) (hE:∀ (i:Nat) (e:PV×List (List PV)) (m:MapEntry),es[i]?=some e→arr[i]?=some m→Kg g.S g.w e.1 m.key∧Ky g (.lst (.own (tk i)) kk b e.2) m.val) (hk:Rel g k kv)
  (h:Py P t es kk b tk k ok=some r):∃ z,(Instr.lookup t (.map (some B)) kv ok).run P g.w=.ok z g.w∧Rel g r z:=by
 unfold Py at h
 split at h
 ·rename_i d hm
  obtain ⟨kt,et,m1,m2,m3,m4,m5⟩:=Rp hm
  split at h
  ·rename_i hd
   obtain ⟨x,hx,rfl⟩:=Option.map_eq_some_iff.1 h
   have hkd:Kg g.S g.w k kv:=by
    revert hk hd
    cases k <;> intro hk hd <;> first|exact hk|(cases d <;> simp [Gu] at hd; done)|skip
    cases d <;> simp only [Gu] at hd <;> try cases hd
    obtain ⟨x,y,e⟩:=Gf hd
    rw [e] at hk ⊢
    exact Jb4 hk
   obtain ⟨iz,zv,z1,z2,z0⟩:=Jog (g:=g) m3
   have hc:=Mq (P:=P) (w:=g.w) m2 m5 hd hkd arr.isEmpty
   rcases Jom m2 m5 hd hkd hsz hE hx with ⟨rfl,hf⟩|⟨i,xss,m,key,rfl,hkey,hf,hm2,hmk⟩
   ·exact ⟨zv,by simp [Instr.lookup,run_underlying m1,MapKept.run_getObj_map hb,hc,hf,zeroValue,typeInfo,z1,z2],z0⟩
   ·exact ⟨m.val,by simp [Instr.lookup,run_underlying m1,MapKept.run_getObj_map hb,hc,hf],(hE i _ m hkey hm2).2⟩
  ·cases h
 ·cases h
/-- What such an operation does. -/
theorem Kat (h:Kw Gl S0 w0 s a g) (o:Oper) {r:PV} (he:ev1 P Gl o.op s.ev s.H s.X=some r) :
  ∃ z,(execOp a.eval o).run P g.w=.ok (.value z) g.w∧Rel g r z:=by
 have key:∀ (m:Sem Value),(∃ z,m.run P g.w=.ok z g.w∧Rel g r z)→∃ z,(do pure (Next.value (← m)):Sem Next).run P g.w=.ok (.value z) g.w∧Rel g r z:=by
  rintro m ⟨z,h1,h2⟩
  exact ⟨z,by simp [h1],h2⟩
 unfold ev1 at he
 unfold execOp
 split at he
 ·rename_i x hop; rw [hop]; cases he; exact ⟨_,rfl,h.ev x⟩
 ·rename_i x hop; rw [hop]; cases he; exact ⟨_,rfl,h.ev x⟩
 ·rename_i c x y hop
  rw [hop]
  have hc:=h.ev c
  split at he
  ·rename_i b hb
   rw [hb,Wh] at hc
   cases he
   refine ⟨if b then a.eval x else a.eval y,by simp [hc,asBool], ?_⟩
   cases b
   ·exact h.ev y
   ·exact h.ev x
  ·cases he
 ·rename_i x hop
  rw [hop]
  have hx:=h.ev x
  split at he
  ·rename_i l o hl
   rw [hl] at hx; cases he
   have hx':=hx
   rw [Ry] at hx
   exact ⟨a.eval x,by simp [hx.1],hx'⟩
  ·rename_i cs hl
   rw [hl] at hx; cases he
   have hx':=hx
   rw [Th] at hx
   obtain ⟨B,o,e,_⟩:=hx
   exact ⟨a.eval x,by simp [e],hx'⟩
  ·rename_i i o hl
   rw [hl] at hx; cases he
   have hx':=hx
   rw [Jaw] at hx
   exact ⟨a.eval x,by simp [hx],hx'⟩
  ·rename_i f caps hl
   rw [hl] at hx; cases he
   have hx':=hx
   simp only [Rel,Qo,Ky] at hx
   obtain ⟨arr,e,_⟩:=hx
   exact ⟨a.eval x,by simp [e],hx'⟩
  ·cases he
 ·rename_i op t x y yt hop
  rw [hop]
  exact key _ (Jv2 he (h.ev x) (h.ev y))
 ·rename_i op t x hop; rw [hop]; exact key _ (Jzx he (h.ev x))
 ·rename_i src dst x hop; rw [hop]; exact key _ (Jt1 he (h.ev x))
 ·rename_i t x f hop; rw [hop]; exact key _ (Jjj he (h.ev x) rfl)
 ·rename_i t x f hop; rw [hop]; exact key _ (Jq1 he (h.ev x))
 ·rename_i t x i hop; rw [hop]; exact key _ (Jjb he (h.ev x) (h.ev i) rfl)
 ·rename_i t x i hop; rw [hop]; exact key _ (Js3 he (h.ev x) (h.ev i))
 ·rename_i t x hop; rw [hop]; exact key _ (Jlw h he (h.ev x))
 ·rename_i x i hop
  rw [hop]
  have hx:=h.ev x
  split at he
  ·rename_i vs hvs
   rw [hvs] at hx
   simp only [Rel] at hx
   obtain ⟨arr,e,hr⟩:=hx
   obtain ⟨z,hz1,hz2⟩:=hr.right he
   refine key _ ⟨z,by rw [e]; simp only [Instr.extract]; rw [show arr[i]?=some z by simpa using hz1]; rfl, ?_⟩
   cases r
   case tup vs=>exact hz2.elim
   all_goals exact hz2
  ·cases he
 ·rename_i t x lo hi mx hop
  rw [hop]
  exact key _ (Jrk he (h.ev x) rfl (Jlb h lo) (Jlb h hi) (Jlb h mx))
 ·rename_i t parts hop
  rw [hop]
  refine key _ (Jta he ⟨by simp,fun i x y hx hy=>?_⟩)
  simp only [List.getElem?_map,Array.toList_map] at hx hy
  cases hp:parts.toList[i]? with
  | none=>rw [hp] at hx; cases hx
  | some q =>
   rw [hp] at hx hy
   cases hx; cases hy
   exact ⟨rfl,h.ev q.2⟩
 ·rename_i t x k ok hop
  rw [hop]
  have hx:=h.ev x
  split at he
  ·rename_i l hl
   rw [hl] at hx
   split at he
   ·rename_i es hes
    obtain ⟨_,_,_,arr,clock,o1,o2⟩:=h.objs l _ (by rw [h.hH]; exact hes)
    have hx1:a.eval x=.map (some (g.φ l)):=hx.1
    have hr:=Jae (P:=P) (.inr ⟨_,_,hx1,o1⟩) o2 (h.ev k) he
    exact key _ hr
   ·rename_i es k' b tk hes
    obtain ⟨_,_,_,_,arr,clock,o1,o2,o3⟩:=h.objs l _ (by rw [h.hH]; exact hes)
    have hx1:a.eval x=.map (some (g.φ l)):=hx.1
    have hr:=Jmw (P:=P) o1 o2 o3 (h.ev k) he
    rw [← hx1] at hr
    exact key _ hr
   ·cases he
  ·rename_i ks vs hl
   rw [hl] at hx
   have hx:Kg g.S g.w (.fmp ks vs) (a.eval x):=hx
   simp only [Kg] at hx
   obtain ⟨hfl,⟨e1,rfl,rfl⟩|⟨B,arr,clock,e1,e2,e3,e4,e5⟩⟩:=hx
   ·exact key _ (Jae (P:=P) (arr:=#[]) (.inl ⟨e1,rfl⟩) .nil (h.ev k) he)
   ·refine key _ (Jae (P:=P) (arr:=arr) (.inr ⟨B,clock,e1,e3⟩) ?_ (h.ev k) he)
    have e4:=(Ww _ _).1 e4
    have e5:=(Ww _ _).1 e5
    refine ⟨by rw [List.length_zip,e4.1,e5.1]; simp,fun i p m hp hm=>?_⟩
    rw [List.getElem?_zip_eq_some] at hp
    exact ⟨e4.2 i p.1 m.key hp.1 (by rw [List.getElem?_map,hm]; rfl),e5.2 i p.2 m.val hp.2 (by rw [List.getElem?_map,hm]; rfl),List.all_eq_true.1 hfl _ (List.mem_of_getElem? hp.2)⟩
  ·cases he
 ·rename_i f first caps hop
  rw [hop]
  split at he
  ·rename_i hc
   obtain ⟨h1,h2⟩:=hc
   cases he
   rw [Jtk h1]
   refine key _ ⟨_,rfl, ?_⟩
   simp only [Rel,Qo,Ky]
   refine ⟨caps.map a.eval,by simp,by simp,fun i x y hx hy=>?_⟩
   simp only [List.getElem?_map,Array.toList_map] at hx hy
   cases hp:caps.toList[i]? with
   | none=>rw [hp] at hx; cases hx
   | some q =>
    rw [hp] at hx hy
    cases hx; cases hy
    have hcap:Fm (s.ev q)=true:=List.all_eq_true.1 h2 _ (List.mem_map.2 ⟨q,List.mem_of_getElem? hp,rfl⟩)
    have hq:=h.ev q
    cases he:s.ev q <;> rw [he] at hq hcap <;> simp only [Fm] at hcap <;> try cases hcap
    all_goals exact hq
  ·cases he
 ·rename_i c hop
  rw [hop]
  split at he
  ·rename_i x t h1 h2 h3
   have ha:=Jkx h2
   have hb:=Jkx h3
   have hr:=Jwi h (ty:=o.type) he (h.ev x)
   obtain ⟨z,hz1,hz2⟩:=hr
   exact ⟨z,by simp [resolve,h1,ha,hb,invoke,builtin,hz1],hz2⟩
  ·rename_i x y h1 h2
   obtain ⟨z,hz1,hz2⟩:=Kb8 (P:=P) (w:=g.w) (ts:=c.argTypes) (ty:=o.type) he (h.ev x) (h.ev y)
   exact ⟨z,by simp [resolve,h1,Nh h2,invoke,builtin,hz1],hz2⟩
  ·rename_i x y h1 h2
   obtain ⟨z,hz1,hz2⟩:=Kb0 (P:=P) (w:=g.w) (ts:=c.argTypes) (ty:=o.type) he (h.ev x) (h.ev y)
   exact ⟨z,by simp [resolve,h1,Nh h2,invoke,builtin,hz1],hz2⟩
  ·cases he
 ·cases he
end
end PM
/-
 THE PURE MACHINE, I: operations that make or write memory of the call's own.
-/
namespace PM
open Go Go.RowKit
/-! ### Data -/
def Jvi : PV→Bool
 | .ref _ _=>false
 | _=>true
def Bp : PV→Option PV
 | .lst (.own _) k b xss=>some (.lst .frozen k b xss)
 | .lst .full k b xss=>some (.lst .frozen k b xss)
 | .lst .frozen k b xss=>some (.lst .frozen k b xss)
 | .int k n=>some (.int k n)
 | .bool b=>some (.bool b)
 | .str s=>some (.str s)
 | .nil=>some .nil
 | .cptr cs=>some (.cptr cs)
 | .gptr i o=>some (.gptr i o)
 | .fmp ks vs=>some (.fmp ks vs)
 | .fn f caps=>if caps.all Jvi=true then some (.fn f caps) else none
 | _=>none
def Ix : List PV→Option (List PV)
 | []=>some []
 | p::ps=>match Bp p,Ix ps with
  | some a,some b=>some (a::b)
  | _,_=>none
def Mg : PV→Option PV
 | .agg cs=>(Ix cs).map .agg
 | p=>Bp p
def Lu : List PV→Option (List PV)
 | []=>some []
 | p::ps=>match Mg p,Lu ps with
  | some a,some b=>some (a::b)
  | _,_=>none
section
variable {P:Program} {Gl:Nat→Option (List PV)} {S0:Bs} {w0:World} {s:PSt} {a:Act} {g:GG} {w:World}
theorem Ow {p q:PV} {v:Value} (h:Ky g p v) (hd:Bp p=some q):Kg g.S g.w q v∧q.one=true:=by
 cases p
 case lst o k b xss =>
  cases o <;> simp only [Bp] at hd <;> cases hd
  ·exact ⟨h,rfl⟩
  ·exact ⟨Kg.unfull h,rfl⟩
  ·exact ⟨h.1,rfl⟩
 case fn f caps =>
  simp only [Bp] at hd
  split at hd
  ·rename_i hc
   cases hd
   simp only [Ky] at h
   obtain ⟨arr,e,hr⟩:=h
   refine ⟨?_,rfl⟩
   simp only [Kg]
   refine ⟨arr,e,(Ww _ _).2 ⟨hr.1,fun i x y hx hy=>?_⟩⟩
   have h0:=hr.2 i x y hx hy
   have h1:=List.all_eq_true.1 hc x (List.mem_of_getElem? hx)
   cases x <;> simp only [Xx,Jvi] at h0 h1 <;> first|exact h0|cases h1
  ·cases hd
 all_goals (simp only [Bp] at hd; cases hd)
 all_goals exact ⟨h,rfl⟩
theorem Om : ∀ {cs ds:List PV} {vs:List Value},Kz (Ya g) cs vs→Ix cs=some ds→Kz (fun p v=>Kg g.S g.w p v∧p.one=true∧v.oneCell'=true) ds vs
 | [],ds,vs,h,hd=>by
  simp only [Ix] at hd; cases hd
  rw [h.nil_left]; exact .nil
 | c::cs,ds,vs,h,hd=>by
  simp only [Ix] at hd
  split at hd
  ·rename_i x y h1 h2
   cases hd
   obtain ⟨v,vs',rfl,hv,hvs⟩:=h.cons_left
   obtain ⟨e1,e2⟩:=Ow hv.1 h1
   exact .cons ⟨e1,e2,hv.2⟩ (Om hvs h2)
  ·cases hd
theorem Nk : ∀ {cs ds:List PV},Ix cs=some ds→ds.length=cs.length
 | [],ds,hd=>by simp only [Ix] at hd; cases hd; rfl
 | c::cs,ds,hd=>by
  simp only [Ix] at hd
  split at hd
  ·rename_i x y h1 h2
   cases hd
   simp [Nk h2]
  ·cases hd
theorem Jbq {p q:PV} {v:Value} (h:Qo g p v) (hd:Mg p=some q):Kg g.S g.w q v:=by
 cases p
 case agg cs =>
  simp only [Mg] at hd
  obtain ⟨ds,h1,rfl⟩:=Option.map_eq_some_iff.1 hd
  simp only [Qo] at h
  obtain ⟨arr,e,hr⟩:=h
  simp only [Kg]
  exact ⟨arr,e,(Ww _ _).2 ((Om hr h1).mono fun _ _ h=>h.1)⟩
 all_goals (simp only [Qo] at h; simp only [Mg] at hd; exact (Ow h hd).1)
theorem Rel.relA {p q:PV} {v:Value} (h:Rel g p v) (hd:Mg p=some q):Qo g p v:=by
 cases p <;> first|exact h|(simp [Mg,Bp] at hd)
theorem Lz : ∀ {ps qs:List PV} {vs:List Value},Kz (Rel g) ps vs→Lu ps=some qs→Kz (Kg g.S g.w) qs vs
 | [],qs,vs,h,hd=>by
  simp only [Lu] at hd; cases hd
  rw [h.nil_left]; exact .nil
 | c::cs,ds,vs,h,hd=>by
  simp only [Lu] at hd
  split at hd
  ·rename_i x y h1 h2
   cases hd
   obtain ⟨v,vs',rfl,hv,hvs⟩:=h.cons_left
   exact .cons (Jbq (hv.relA h1) h1) (Lz hvs h2)
  ·cases hd
/-! ### A new block -/
theorem Sy (w:World) (o:Obj):Nj w.heap.size w (w.alloc o):=⟨(Below.refl _ _).alloc (Nat.le_refl _) o,Nat.le_refl _⟩
theorem Nv (w:World) (arr:Array Value) (t:TypeId):(w.alloc (.cells arr t)).rangeAt w.heap.size 0 arr.toList:=fun j v hv=>by
 rw [Nat.zero_add,World.cell?_alloc_new]
 simpa using hv
theorem Su (w:World) (arr:Array Value) (t:TypeId):(w.alloc (.cells arr t)).there w.heap.size 0 arr.size:=fun j hj=>by
 rw [Nat.zero_add,World.cell?_alloc_new,World.frozen?_alloc_new]
 exact ⟨by simp [hj],rfl⟩
theorem Kw.spare_lt (h:Kw Gl S0 w0 s a g) (t:Nat) (hs:Wg g t g.w.heap.size):False:=by
 have:=hs.lt h; omega
theorem Kw.xb_lt (h:Kw Gl S0 w0 s a g) (t:Nat) (hs:XB s.X g t g.w.heap.size):False:=by
 have:=(hs.lt h).1; omega
theorem Kw.phi_lt (h:Kw Gl S0 w0 s a g) (l:Nat) (hl:(g.H l).isSome=true):g.φ l≠g.w.heap.size:=by
 obtain ⟨ob,hob⟩:=Option.isSome_iff_exists.1 hl
 have:=(h.objs l ob hob).2.1
 omega
/-- A variable of the call's own is made. -/
theorem Kw.newVar (h:Kw Gl S0 w0 s a g) {l:Nat} {cs:List PV} {arr:Array Value} (t:TypeId) (hl:g.H l=none) (hl6:l<1000000) (hc:Kz (Ya g) cs arr.toList) :
  ∃ g',g'.w=g.w.alloc (.cells arr t)∧Kw Gl S0 w0 { s with H:=upd s.H l (some (.cells cs)) } a g'∧GLe g g'∧g'.φ l=g.w.heap.size∧(g'.H l).isSome=true∧g'.H=upd g.H l (some (.cells cs)):=by
 obtain ⟨h1,e1⟩:=h.grow' (Sy g.w (.cells arr t))
 have hz:=h.below.size
 obtain ⟨h2,e2⟩:=h1.addObj (l:=l) (B:=g.w.heap.size) (ob:=.cells cs) hl hl6 (.inl (by omega)) (by show g.w.heap.size<(g.w.alloc _).heap.size; simp) (fun o ho=>by have:=h.lt _ _ ho; omega)
  (fun l' hl'=>h.phi_lt l' hl') (fun t ht=>h.spare_lt t (ht.congr rfl rfl)) (fun t ht=>h.xb_lt t (ht.congr rfl)) (fun g' hg' hw'=>⟨arr.toList,hc.mono fun x y hxy=>(hxy.mono e1).mono hg',by rw [hw']; exact Nv _ _ _,by rw [hw']; simpa using Su g.w arr t⟩)
 refine ⟨_,rfl,h2,⟨fun B o hB=>e2.S B o (e1.S B o hB),fun B o hB=>(e2.cell B o (e1.S B o hB)).trans (e1.cell B o hB),fun B hB=>(e2.blk B fun o=>e1.S B o (hB o)).trans (e1.blk B hB), ?_, ?_⟩,by simp,by simp [upd],rfl⟩
 ·intro l' ob hob
  have hne:l'≠l:=fun e=>by rw [e,hl] at hob; cases hob
  exact ⟨by simp [hne],ob,by simpa [upd,hne] using hob,fun cs e=>⟨cs,e,rfl⟩⟩
 ·intro t n k ht
  exact ⟨n,ht,Nat.le_refl _,fun _=>rfl⟩
theorem GLe.trans {g1 g2 g3:GG} (h:GLe g1 g2) (h':GLe g2 g3):GLe g1 g3:=by
 refine ⟨fun B o hB=>h'.S B o (h.S B o hB),fun B o hB=>(h'.cell B o (h.S B o hB)).trans (h.cell B o hB),fun B hB=>(h'.blk B fun o=>h.S B o (hB o)).trans (h.blk B hB),fun l ob hob=>?_,fun t n k ht=>?_⟩
 ·obtain ⟨e1,ob1,e2,e3⟩:=h.obj l ob hob
  obtain ⟨f1,ob2,f2,f3⟩:=h'.obj l ob1 e2
  refine ⟨f1.trans e1,ob2,f2,fun cs e=>?_⟩
  obtain ⟨cs1,q1,q2⟩:=e3 cs e
  obtain ⟨cs2,r1,r2⟩:=f3 cs1 q1
  exact ⟨cs2,r1,by omega⟩
 ·obtain ⟨n1,e1,e2,e3⟩:=h.tok t n k ht
  obtain ⟨n2,f1,f2,f3⟩:=h'.tok t n1 k e1
  exact ⟨n2,f1,by omega,fun e=>by rw [f3 (by omega),e3 (by omega)]⟩
/-- A row of data is laid into a new block, whose first cells are stable from now on. -/
theorem Kw.newRow (h:Kw Gl S0 w0 s a g) (arr:Array Value) (t:TypeId) (m:Nat) :
  Kw Gl S0 w0 s a { g with w:=g.w.alloc (.cells arr t),S:=fun b o=>g.S b o∨(b=g.w.heap.size∧o<m) }∧GLe g { g with w:=g.w.alloc (.cells arr t),S:=fun b o=>g.S b o∨(b=g.w.heap.size∧o<m) } :=
 h.grow (Sy g.w (.cells arr t)) (fun _ _ h=>.inl h) (fun B o hB=>hB.imp id fun ⟨e,_⟩=>⟨by omega,by simp; omega⟩)
/-- Elements whose cells are data, in a row of memory. -/
theorem Yw {S:Ua} {w:World} {k:Nat}:∀ {xss:List (List PV)} {B o:Nat} {vs:List Value},(∀ cs∈xss,cs.length=k)→Kz (fun p v=>Kg S w p v∧p.one=true) xss.flatten vs→w.rangeAt B o vs→(∀ j,j<vs.length→S B (o+j))→Ws S w k xss B o
 | [],B,o,vs,_,_,_,_=>by simp [Ws]
 | cs::xss,B,o,vs,hl,hv,hr,hS=>by
  simp only [Ws]
  have hk:cs.length=k:=hl cs (by simp)
  rw [List.flatten_cons] at hv
  have hvl:vs.length=cs.length+xss.flatten.length:=by rw [← hv.1]; simp
  refine ⟨hk, ?_, ?_⟩
  ·rw [Yc]
   intro i c hc
   have hi:i<cs.length:=(List.getElem?_eq_some_iff.1 hc).1
   obtain ⟨v,hv1,hv2⟩:=hv.right (i:=i) (x:=c) (by rw [List.getElem?_append_left hi]; exact hc)
   exact ⟨hv2.2,hS i (by omega),v,hr i v hv1,hv2.1⟩
  ·have hd:=hv.drop cs.length
   rw [List.drop_left] at hd
   refine Yw (fun cs hcs=>hl cs (by simp [hcs])) hd (fun j v hj=>?_) (fun j hj=>?_)
   ·rw [List.getElem?_drop] at hj
    have:=hr _ v hj
    rwa [show o+(cs.length+j)=o+k+j by omega] at this
   ·rw [List.length_drop] at hj
    have:=hS (cs.length+j) (by omega)
    rwa [show o+(cs.length+j)=o+k+j by omega] at this
end
end PM
