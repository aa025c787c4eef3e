import Derived.Test.YtfpoeepcomnjhaaGreatDoorPmA
import Derived.Laws.Slices
import Derived.MapKept
import Derived.Laws.Tables
import Derived.Orders
/-
 THE PURE MACHINE, F: the other operations that yield a value and leave memory alone; all of them in one function (ev1).
-/
namespace PM
open Go Go.RowKit
def Jx9 (op:UnOp):PV→Option PV
 | .bool b=>match op with|.not=>some (.bool (!b))|_=>none
 | .int k n=>match op with|.neg=>some (.int k (k.wrap (0 - n)))|_=>none
 | _=>none
def Jq1 (P:Program) (src dst:TypeId):PV→Option PV
 | .int _ n=>match Jxd P src,Jxd P dst with
  | some _,some k=>some (.int k (k.wrap n))
  | _,_=>none
 | .str s=>if Jhl P src&&Jhl P dst then some (.str s) else none
 | _=>none
def Jno (P:Program) (t:TypeId) (f:Nat):PV→Option PV
 | .agg cs=>match Jb1 P t f with
  | some (off,true,n)=>if off+n≤cs.length then some (.agg ((cs.drop off).take n)) else none
  | some (off,false,_)=>cs[off]?
  | none=>none
 | _=>none
def Md (P:Program) (t:TypeId) (f:Nat):PV→Option PV
 | .ref l o=>match Jb1 P t f with|some (off,_,n)=>if n=0 then none else some (.ref l (o+off))|none=>none
 | .cptr cs=>match Jb1 P t f with|some (off,_,n)=>if n=0 then none else some (.cptr (cs.drop off))|none=>none
 | .gptr g o=>match Jb1 P t f with|some (off,_,n)=>if n=0 then none else some (.gptr g (o+off))|none=>none
 | .eref tk k N j o=>match Jb1 P t f with|some (off,_,n)=>if n=0 then none else some (.eref tk k N j (o+off))|none=>none
 | _=>none
def Lz (P:Program) (t:TypeId):PV→PV→Option PV
 | .lst _ k _ xss,.int _ n=>match Oq P t with
  | some (_,_,k',_)=>if k'=k∧0≤n then (xss[n.toNat]?).map .cptr else none
  | none=>none
 | .sl l o len k _,.int _ n=>match Oq P t with
  | some (_,_,k',_)=>if k'=k∧0≤n∧n<len then some (.ref l (o * k+n.toNat * k)) else none
  | none=>none
 | .ex tk k _ N o m,.int _ n=>match Oq P t with
  | some (_,_,k',_)=>if k'=k∧0≤n∧n<m then some (.eref tk k N (o+n.toNat) 0) else none
  | none=>none
 | .ref l o,.int _ n=>match Jp0 P t with
  | some (m,_,k)=>if 0≤n∧n<m then some (.ref l (o+n.toNat * k)) else none
  | none=>none
 | .cptr cs,.int _ n=>match Jp0 P t with
  | some (m,_,k)=>if 0≤n∧n<m then some (.cptr (cs.drop (n.toNat * k))) else none
  | none=>none
 | .gptr g o,.int _ n=>match Jp0 P t with
  | some (m,_,k)=>if 0≤n∧n<m then some (.gptr g (o+n.toNat * k)) else none
  | none=>none
 | _,_=>none
def Jgl (P:Program) (t:TypeId):PV→PV→Option PV
 | .agg cs,.int _ n=>match Jp0 P t with
  | some (m,true,k)=>if 0≤n∧n<m∧n.toNat * k+k≤cs.length then some (.agg ((cs.drop (n.toNat * k)).take k)) else none
  | some (m,false,k)=>if 0≤n∧n<m then cs[n.toNat * k]? else none
  | none=>none
 | .str s,.int _ n=>if Jhl P t&&decide (0≤n) then (s[n.toNat]?).map fun b=>.int .u8 b.toNat else none
 | _,_=>none
def Jl2 (n:Nat) (cs:List PV):List PV:=if cs.length=n then cs else cs.take n
def Tx (P:Program) (t:TypeId) (cs:List PV):Option PV :=
 match tyK P t with
 | some (true,n)=>if n≤cs.length then some (.agg (Jl2 n cs)) else none
 | some (false,_)=>cs.head?
 | none=>none
def So (P:Program) (Gl:Nat→Option (List PV)) (H:Nat→Option Qv) (X:XT) (t:TypeId):PV→Option PV
 | .cptr cs=>Tx P t cs
 | .ref l o=>match H l with|some (.cells cs)=>Tx P t (cs.drop o)|_=>none
 | .gptr i o=>match Gl i with|some cs=>Tx P t (cs.drop o)|none=>none
 | .eref tk k N j o=>match X tk with|some (k',_,xss)=>if k'=k∧xss.length=N then (xss[j]?).bind fun cs=>Tx P t (cs.drop o) else none|none=>none
 | _=>none
def bnd (x:Option PV) (dflt:Nat):Option Nat :=
 match x with
 | none=>some dflt
 | some (.int _ n)=>if 0≤n then some n.toNat else none
 | _=>none
def Nw (P:Program) (t:TypeId) (lo hi mx:Option PV):PV→Option PV
 | .lst o k b xss=>match Oq P t,bnd lo 0,bnd hi xss.length,bnd mx xss.length with
  | some (_,_,k',_),some l,some h,some m =>
   if k'=k∧l≤h∧h≤m∧m≤xss.length∧(mx=none∨hi≠none) then some (.lst (if (mx≠none∧m=h)∨(o=.full∧hi=none) then .full else .frozen) k b ((xss.take h).drop l)) else none
  | _,_,_,_=>none
 | .nil=>match Oq P t,bnd lo 0,bnd hi 0,bnd mx 0 with
  | some _,some 0,some 0,some 0=>if mx=none∨hi≠none then some .nil else none
  | _,_,_,_=>none
 | .sl l o len k b=>match Oq P t,bnd lo 0,bnd hi len with
  | some (_,_,k',_),some a,some h=>if k'=k∧a≤h∧h≤len∧mx=none then some (.sl l (o+a) (h - a) k b) else none
  | _,_,_=>none
 | .ex tk k b N o len=>match Oq P t,bnd lo 0,bnd hi len with
  | some (_,_,k',_),some a,some h=>if k'=k∧a≤h∧h≤len∧mx=none then some (.ex tk k b N (o+a) (h - a)) else none
  | _,_,_=>none
 | .str s=>match bnd lo 0,bnd hi s.size with
  | some l,some h=>if Jhl P t=true∧l≤h∧h≤s.size∧mx=none then some (.str (s.extract l h)) else none
  | _,_=>none
 | _=>none
def Jpg (P:Program) (H:Nat→Option Qv) (t:TypeId):PV→Option PV
 | .lst _ _ _ xss=>if Ia P t then some (.int .i64 xss.length) else none
 | .sl _ _ n _ _=>if Ia P t then some (.int .i64 n) else none
 | .ex _ _ _ _ _ n=>if Ia P t then some (.int .i64 n) else none
 | .nil=>if Ia P t then some (.int .i64 0) else none
 | .str s=>if Jhl P t then some (.int .i64 s.size) else none
 | .mp l=>match H l with|some (.map es)=>if Jyj P t then some (.int .i64 es.length) else none|_=>none
 | _=>none
/-- Are two keys equal? -/
def Ja0 : PV→PV→Option Bool
 | .int k a,.int k' b=>if k=k' then some (decide (a=b)) else none
 | .str a,.str b=>some (decide (a=b))
 | .bool a,.bool b=>some (decide (a=b))
 | .agg [.int .i64 a,.int .i64 b],.agg [.int .i64 c,.int .i64 d]=>some (decide (a=c)&&decide (b=d))
 | _,_=>none
def Jc6 (k:PV):List (PV×PV)→Option (Option PV)
 | []=>some none
 | e::es=>match Ja0 k e.1 with
  | some true=>some (some e.2)
  | some false=>Jc6 k es
  | none=>none
def Jbw (k v:PV):List (PV×PV)→Option (List (PV×PV))
 | []=>some [(k,v)]
 | e::es=>match Ja0 k e.1 with
  | some true=>some ((k,v)::es)
  | some false=>(Jbw k v es).map (e::·)
  | none=>none
def Joq (P:Program) (t:TypeId):Bool:=match P.underlying t with|some (.int .i64)=>true|_=>false
/-- A struct of two numbers. -/
def Jii (P:Program) (t:TypeId):Bool :=
 match P.underlying t with
 | some (.struct fs)=>(match fs.toList with
  | [f1,f2]=>Joq P f1.type&&Joq P f2.type&&decide (f1.offset=0)&&decide (f2.offset=1)
  | _=>false)&&(match Jf8 P 10000 t with|some [.i .i64,.i .i64]=>true|_=>false)
 | _=>false
def Jhi (P:Program) (t:TypeId):TypeDesc→Bool
 | .struct _=>Jii P t
 | _=>true
/-- A map's kind of keys, and the zero value of its elements. -/
def Tn (P:Program) (t:TypeId):Option (TypeDesc×PV) :=
 match P.underlying t with
 | some (.map k e)=>match P.underlying k,Jbi P e with
  | some d,some z=>if Nm z=true∧Jhi P k d=true then some (d,z) else none
  | _,_=>none
 | _=>none
def Cx : TypeDesc→PV→Bool
 | .int k,.int k' _=>decide (k'=k)
 | .string,.str _=>true
 | .bool,.bool _=>true
 | .struct _,.agg [.int .i64 _,.int .i64 _]=>true
 | _,_=>false
/-- What a map gives at a key that it does not have: an empty list in place of nil. -/
def Jtg (P:Program) (t:TypeId) (z:PV):PV :=
 match z with
 | .nil=>match P.underlying t with
  | some (.map _ e)=>match Oq P e with
   | some (_,_,k,b)=>.lst .frozen k b []
   | none=>.nil
  | _=>.nil
 | z=>z
theorem Jvk {g:GG} {P:Program} {t:TypeId} {z:PV} {v:Value} (h:Qb g z v):Qb g (Jtg P t z) v:=by
 unfold Jtg
 split
 ·split
  ·split
   ·exact Kh.ofNil _ _ (.inl rfl) h
   ·exact h
  ·exact h
 ·exact h
def Hf (P:Program) (t:TypeId) (es:List (PV×PV)) (k:PV) (ok:Bool):Option PV :=
 match Tn P t with
 | some (d,z)=>if Cx d k=true then (Jc6 k es).map fun r=>if ok=true then .tup [r.getD (Jtg P t z),.bool r.isSome] else r.getD (Jtg P t z) else none
 | none=>none
/-- Where a key is in a map of lists that may grow in place. -/
def Jf3 (k:PV):List (PV×List (List PV))→Option (Option (Nat×List (List PV)))
 | []=>some none
 | e::es=>match Ja0 k e.1 with
  | some true=>some (some (0,e.2))
  | some false=>(Jf3 k es).map (Option.map fun x=>(x.1+1,x.2))
  | none=>none
def Jld (k b:Nat) (es:List (PV×List (List PV))):List (PV×PV):=es.map fun e=>(e.1,.lst .frozen k b e.2)
def Oj (P:Program) (t:TypeId) (es:List (PV×List (List PV))) (k b:Nat) (tk:Nat→Nat) (kv:PV) (ok:Bool):Option PV :=
 match Tn P t,ok with
 | some (d,.nil),false=>if Cx d kv=true then (Jf3 kv es).map fun r=>match r with
  | some (i,xss)=>.lst (.own (tk i)) k b xss
  | none=>.nil
  else none
 | _,_=>none
def Bh : PV→Bool
 | .ref _ _|.cptr _|.gptr _ _=>true
 | _=>false
def Ly (max:Bool):PV→PV→Option PV
 | .int k a,.int k' b=>if k=k' then some (.int k (if max then Max.max a b else Min.min a b)) else none
 | _,_=>none
section
variable {P:Program} {Gl:Nat→Option (List PV)} {S0:Bs} {w0:World} {s:PSt} {a:Act} {g:GG} {w:World}
theorem Juq {op:UnOp} {p r:PV} {v:Value} (h:Jx9 op p=some r) (hv:Rel g p v):∃ z,(Op.unary op v).run P w=.ok z w∧Rel g r z:=by
 cases p <;> simp only [Jx9] at h <;> try cases h
 case bool b =>
  rw [Vx] at hv; subst hv
  cases op <;> simp only at h <;> cases h
  exact ⟨_,by simp [Op.unary],Vx.2 rfl⟩
 case int k n =>
  rw [Uo] at hv; subst hv
  cases op <;> simp only at h <;> cases h
  exact ⟨_,by simp [Op.unary,Op.intArith]; rfl,Uo.2 (by simp)⟩
theorem Jnd {t:TypeId} {k:IntKind} (h:Jxd P t=some k):P.underlying t=some (.int k):=by
 unfold Jxd at h
 split at h
 ·rename_i k' hk; cases h; exact hk
 ·cases h
theorem Oe {t:TypeId} (h:Jhl P t=true):P.underlying t=some .string:=by
 unfold Jhl at h
 split at h
 ·assumption
 ·cases h
theorem Gm {t:TypeId} (h:Ia P t=true):∃ e,P.underlying t=some (.slice e):=by
 unfold Ia at h
 split at h
 ·rename_i e he; exact ⟨e,he⟩
 ·cases h
theorem Jq7 {src dst:TypeId} {p r:PV} {v:Value} (h:Jq1 P src dst p=some r) (hv:Rel g p v):∃ z,(convert src dst v).run P w=.ok z w∧Rel g r z:=by
 cases p <;> simp only [Jq1] at h <;> try cases h
 case int k n =>
  rw [Uo] at hv; subst hv
  split at h
  ·rename_i k1 k2 h1 h2
   cases h
   exact ⟨_,by simp [convert,run_underlying (Jnd h1),run_underlying (Jnd h2),Conv.intToInt],Uo.2 rfl⟩
  ·cases h
 case str s =>
  rw [Jcr] at hv; subst hv
  by_cases hs:(Jhl P src&&Jhl P dst)=true
  ·rw [if_pos hs] at h; cases h
   simp only [Bool.and_eq_true] at hs
   exact ⟨_,by simp [convert,run_underlying (Oe hs.1),run_underlying (Oe hs.2)],Jcr.2 rfl⟩
  ·rw [if_neg hs] at h; cases h
theorem Wk.rel {p:PV} {v:Value} (h:Wk g p v):Rel g p v:=.of1 h.1
theorem Jso {cs:List PV} {arr:Array Value} (h:Kv (Wk g) cs arr.toList) (off n:Nat):Rel g (.agg ((cs.drop off).take n)) (.agg (arr.extract off (off+n))):=by
 simp only [Rel,Qb]
 refine ⟨_,rfl, ?_⟩
 have:=(h.drop off).take n
 rwa [show (arr.extract off (off+n)).toList=(arr.toList.drop off).take n by simp [Array.toList_extract]]
theorem Jo6 {t:TypeId} {f:Nat} {p r:PV} {v:Value} (h:Jno P t f p=some r) (hv:Rel g p v):∃ z,(Instr.field t v f).run P w=.ok z w∧Rel g r z:=by
 cases p <;> simp only [Jno] at h <;> try cases h
 case agg cs =>
  simp only [Rel,Qb] at hv
  obtain ⟨arr,rfl,harr⟩:=hv
  split at h
  ·rename_i off n hk
   obtain ⟨fs,fl,i,d,h1,h2,h3,h4,h5,h6,h7⟩:=Jcy hk
   split at h
   ·cases h
    refine ⟨.agg (arr.extract off (off+n)), ?_,Jso harr off n⟩
    simp only [Instr.field,Sem.run_bind,run_underlying h1,Result.andThen_ok,h2,asAgg,part,Fy h5,Vu h4,← h6,if_true,h3,Sem.run_pure,h7]
   ·cases h
  ·rename_i off n hk
   obtain ⟨fs,fl,i,d,h1,h2,h3,h4,h5,h6,h7⟩:=Jcy hk
   obtain ⟨v,hv,hrel⟩:=harr.right h
   refine ⟨v, ?_,hrel.rel⟩
   simp only [Instr.field,Sem.run_bind,run_underlying h1,Result.andThen_ok,h2,asAgg,part,Fy h5,← h6,Bool.false_eq_true,if_false,h3,Sem.run_pure]
   rw [show arr[off]? = some v by simpa using hv]
   rfl
  ·cases h
theorem Ug.drop {S:Qj} {cs:List PV} {B o:Nat} (h:Ug S w cs B o) (n:Nat):Ug S w (cs.drop n) B (o+n):=by
 rw [Wf] at h ⊢
 intro i c hc
 rw [List.getElem?_drop] at hc
 have:=h _ c hc
 rwa [show o+(n+i)=o+n+i by omega] at this
theorem Hq {cs:List PV} {v:Value}:Rel g (.cptr cs) v↔∃ B off,v=.pointer (some ⟨B,off,none⟩)∧Ug g.S g.w cs B off:=by simp [Rel,Qb,Kx,Kh]
theorem Fq {l o:Nat} {v:Value}:Rel g (.ref l o) v↔v=.pointer (some ⟨g.φ l,o,none⟩)∧(g.H l).isSome=true:=by simp [Rel,Qb,Kx]
theorem Lo {i o:Nat} {v:Value}:Rel g (.gptr i o) v↔v=.pointer (some ⟨i,o,none⟩):=by simp [Rel,Qb,Kx,Kh]
theorem Bp {t:TypeId} {f off n:Nat} {x:Bool} (hk:Jb1 P t f=some (off,x,n)) (hn:n≠0) (B o:Nat):(Instr.fieldAt t (.pointer (some ⟨B,o,none⟩)) f).run P w=.ok (.pointer (some ⟨B,o+off,none⟩)) w:=by
 obtain ⟨fs,fl,i,d,h1,h2,h3,h4,h5,h6,h7⟩:=Jcy hk
 have hi:¬ i.size=0:=by omega
 simp [Instr.fieldAt,Sem.run_bind,run_underlying h1,h2,Instr.sureAddr,fieldPlace,Vu h4,hi,h3,Addr.add_lit]
theorem Jjl {t:TypeId} {f:Nat} {p r:PV} {v:Value} (h:Md P t f p=some r) (hv:Rel g p v) (hw:g.w=w):∃ z,(Instr.fieldAt t v f).run P w=.ok z w∧Rel g r z:=by
 subst hw
 cases p <;> simp only [Md] at h <;> try cases h
 case ref l o =>
  split at h
  ·rename_i off x n hk
   by_cases hn:n=0
   ·rw [if_pos hn] at h; cases h
   ·rw [if_neg hn] at h; cases h
    rw [Fq] at hv
    obtain ⟨rfl,hl⟩:=hv
    exact ⟨_,Bp hk hn _ _,Fq.2 ⟨rfl,hl⟩⟩
  ·cases h
 case cptr cs =>
  split at h
  ·rename_i off x n hk
   by_cases hn:n=0
   ·rw [if_pos hn] at h; cases h
   ·rw [if_neg hn] at h; cases h
    rw [Hq] at hv
    obtain ⟨B,o,rfl,hc⟩:=hv
    exact ⟨_,Bp hk hn _ _,Hq.2 ⟨B,o+off,rfl,hc.drop off⟩⟩
  ·cases h
 case eref tk k N j o =>
  split at h
  ·rename_i off x n hk
   by_cases hn:n=0
   ·rw [if_pos hn] at h; cases h
   ·rw [if_neg hn] at h; cases h
    simp only [Rel,Qb,Kx] at hv
    obtain ⟨⟨B,q,rfl⟩,N',h1,h2,h3⟩:=hv
    refine ⟨_,Bp hk hn _ _,⟨⟨B,_,rfl⟩,N',h1,h2,fun e=>?_⟩⟩
    obtain ⟨B',cap,e1,e2⟩:=h3 e
    cases e2
    exact ⟨B,cap,e1,by rw [Nat.add_assoc]⟩
  ·cases h
 case gptr i o =>
  split at h
  ·rename_i off x n hk
   by_cases hn:n=0
   ·rw [if_pos hn] at h; cases h
   ·rw [if_neg hn] at h; cases h
    rw [Lo] at hv
    subst hv
    exact ⟨_,Bp hk hn _ _,Lo.2 rfl⟩
  ·cases h
theorem Pa {t:TypeId} {e:TypeId} {x:Bool} {k b:Nat} (hk:Oq P t=some (e,x,k,b)) (B o len cap:Nat) (k':IntKind) (n:Int) (h0:0≤n) (h1:n<len) :
  (Instr.indexAt t (.slice (some ⟨B,o,none⟩) len cap) (.int k' n)).run P w=.ok (.pointer (some ⟨B,o+n.toNat * k,none⟩)) w:=by
 obtain ⟨i,d,h2,h3,h4,h5,h6,h7⟩:=Le hk
 have he:P.elem t=e:=by simp [Program.elem,h2]
 rw [run_indexAt_slice w t _ _ _ _ _ (by rw [he]; exact h2),if_pos ⟨h0,h1⟩,he,Vu h3]
 simp only [Result.andThen_ok,Addr.add_lit,h6]
theorem Nh {t:TypeId} {m k:Nat} {x:Bool} (hk:Jp0 P t=some (m,x,k)) (B o:Nat) (k':IntKind) (n:Int) (h0:0≤n) (h1:n<m) :
  (Instr.indexAt t (.pointer (some ⟨B,o,none⟩)) (.int k' n)).run P w=.ok (.pointer (some ⟨B,o+n.toNat * k,none⟩)) w:=by
 obtain ⟨e,i,d,h2,h3,h4,h5,h6⟩:=Jds hk
 have he:P.elem t=e:=by simp [Program.elem,h2]
 have hl:P.arrayLen t=m:=by simp [Program.arrayLen,h2]
 rw [run_indexAt_array w t _ _ _ (by rw [he,hl]; exact h2),hl,if_pos ⟨h0,h1⟩,he,Vu h3]
 simp only [Result.andThen_ok,Addr.add_lit,h6]
theorem Jg5 {o:Own} {k b:Nat} {xss:List (List PV)} {v:Value} (h:Rel g (.lst o k b xss) v):Kh g.S g.w (.lst .frozen k b xss) v:=by
 cases o with
 | own t=>exact h.1
 | frozen=>exact h
 | full=>exact Kh.unfull h
theorem Jji {t:TypeId} {p q r:PV} {v u:Value} (h:Lz P t p q=some r) (hv:Rel g p v) (hu:Rel g q u) (hw:g.w=w):∃ z,(Instr.indexAt t v u).run P w=.ok z w∧Rel g r z:=by
 subst hw
 cases p <;> cases q <;> simp only [Lz] at h <;> try cases h
 case lst.int o k b xss k' n =>
  rw [Uo] at hu; subst hu
  split at h
  ·rename_i e x k1 b1 hk
   by_cases hc:k1=k∧0≤n
   ·rw [if_pos hc] at h
    obtain ⟨rfl,h0⟩:=hc
    obtain ⟨cs,hcs,rfl⟩:=Option.map_eq_some_iff.1 h
    have hlt:n.toNat<xss.length:=(List.getElem?_eq_some_iff.1 hcs).1
    have hd:=Jg5 hv
    simp only [Kh] at hd
    obtain ⟨_,_,_,⟨_,rfl⟩|⟨B,off,cap,rfl,_,_,he⟩⟩:=hd
    ·simp at hlt
    ·exact ⟨_,Pa hk _ _ _ _ _ _ h0 (by omega),Hq.2 ⟨B,_,rfl,((Pu k1 xss B off).1 he _ cs hcs).2⟩⟩
   ·rw [if_neg hc] at h; cases h
  ·cases h
 case sl.int l o len k b k' n =>
  rw [Uo] at hu; subst hu
  split at h
  ·rename_i e x k1 b1 hk
   by_cases hc:k1=k∧0≤n∧n<len
   ·rw [if_pos hc] at h; cases h
    obtain ⟨rfl,h0,h1⟩:=hc
    simp only [Rel,Qb,Kx] at hv
    obtain ⟨⟨off,cap,rfl,hcap,hoff⟩,cs,hcs,_⟩:=hv
    have:off=o * k1:=hoff.resolve_right (by omega)
    subst this
    exact ⟨_,Pa hk _ _ _ _ _ _ h0 h1,Fq.2 ⟨rfl,by rw [hcs]; rfl⟩⟩
   ·rw [if_neg hc] at h; cases h
  ·cases h
 case ex.int tk k b N o m k' n =>
  rw [Uo] at hu; subst hu
  split at h
  ·rename_i e x k1 b1 hk
   by_cases hc:k1=k∧0≤n∧n<m
   ·rw [if_pos hc] at h; cases h
    obtain ⟨rfl,h0,h1⟩:=hc
    simp only [Rel,Qb,Kx] at hv
    obtain ⟨⟨x,cap,rfl,hcap,hx⟩,N',q1,q2,q3⟩:=hv
    obtain ⟨B,off,rfl⟩:=hx (by omega)
    refine ⟨_,Pa hk _ _ _ _ _ _ h0 h1,⟨⟨B,_,rfl⟩,N',q1,q2,fun e=>?_⟩⟩
    rcases q3 e with ⟨_,_,_,e4⟩|⟨B',cap',off',e1,e2,e3,e4,e5,e6⟩
    ·omega
    ·simp only [Value.slice.injEq,Option.some.injEq,Addr.mk.injEq,and_true] at e5
     obtain ⟨⟨rfl,rfl⟩,_,rfl⟩:=e5
     rcases e6 with rfl|e6
     ·exact ⟨B,cap',e1,by rw [Nat.add_zero,Nat.add_mul]⟩
     ·omega
   ·rw [if_neg hc] at h; cases h
  ·cases h
 case ref.int l o k' n =>
  rw [Uo] at hu; subst hu
  split at h
  ·rename_i m x k1 hk
   by_cases hc:0≤n∧n<m
   ·rw [if_pos hc] at h; cases h
    rw [Fq] at hv
    obtain ⟨rfl,hl⟩:=hv
    exact ⟨_,Nh hk _ _ _ _ hc.1 hc.2,Fq.2 ⟨rfl,hl⟩⟩
   ·rw [if_neg hc] at h; cases h
  ·cases h
 case cptr.int cs k' n =>
  rw [Uo] at hu; subst hu
  split at h
  ·rename_i m x k1 hk
   by_cases hc:0≤n∧n<m
   ·rw [if_pos hc] at h; cases h
    rw [Hq] at hv
    obtain ⟨B,o,rfl,hcs⟩:=hv
    exact ⟨_,Nh hk _ _ _ _ hc.1 hc.2,Hq.2 ⟨B,_,rfl,hcs.drop _⟩⟩
   ·rw [if_neg hc] at h; cases h
  ·cases h
 case gptr.int i o k' n =>
  rw [Uo] at hu; subst hu
  split at h
  ·rename_i m x k1 hk
   by_cases hc:0≤n∧n<m
   ·rw [if_pos hc] at h; cases h
    rw [Lo] at hv
    subst hv
    exact ⟨_,Nh hk _ _ _ _ hc.1 hc.2,Lo.2 rfl⟩
   ·rw [if_neg hc] at h; cases h
  ·cases h
theorem Jpr {t:TypeId} {p q r:PV} {v u:Value} (h:Jgl P t p q=some r) (hv:Rel g p v) (hu:Rel g q u):∃ z,(Instr.index t v u).run P w=.ok z w∧Rel g r z:=by
 cases p <;> cases q <;> simp only [Jgl] at h <;> try cases h
 case agg.int cs k' n =>
  rw [Uo] at hu; subst hu
  simp only [Rel,Qb] at hv
  obtain ⟨arr,rfl,harr⟩:=hv
  split at h
  ·rename_i m k hk
   obtain ⟨e,i,d,h2,h3,h4,h5,h6⟩:=Jds hk
   by_cases hc:0≤n∧n<m∧n.toNat * k+k≤cs.length
   ·rw [if_pos hc] at h; cases h
    refine ⟨_, ?_,Jso harr (n.toNat * k) k⟩
    have hc':0≤n∧n<(m:Int):=⟨hc.1,hc.2.1⟩
    simp only [Instr.index,asIntOf,Sem.run_bind,Sem.run_pure,Result.andThen_ok,run_underlying h2,if_pos hc',Vu h3,part,Fy h4,← h5,if_true,h6]
   ·rw [if_neg hc] at h; cases h
  ·rename_i m k hk
   obtain ⟨e,i,d,h2,h3,h4,h5,h6⟩:=Jds hk
   by_cases hc:0≤n∧n<m
   ·rw [if_pos hc] at h
    obtain ⟨z,hz,hrel⟩:=harr.right h
    refine ⟨z, ?_,hrel.rel⟩
    simp only [Instr.index,asIntOf,Sem.run_bind,Sem.run_pure,Result.andThen_ok,run_underlying h2,if_pos hc,Vu h3,part,Fy h4,← h5,Bool.false_eq_true,if_false,← h6]
    rw [show arr[n.toNat * k]? = some z by simpa using hz]
    rfl
   ·rw [if_neg hc] at h; cases h
  ·cases h
 case str.int st k' n =>
  rw [Uo] at hu; subst hu
  rw [Jcr] at hv; subst hv
  by_cases hc:(Jhl P t&&decide (0≤n))=true
  ·rw [if_pos hc] at h
   simp only [Bool.and_eq_true,decide_eq_true_eq] at hc
   obtain ⟨b,hb,rfl⟩:=Option.map_eq_some_iff.1 h
   refine ⟨_, ?_,Uo.2 rfl⟩
   simp only [Instr.index,asIntOf,Sem.run_bind,Sem.run_pure,Result.andThen_ok,run_underlying (Oe hc.1),if_pos hc.2,hb]
  ·rw [if_neg hc] at h; cases h
end
end PM
/-
 THE PURE MACHINE, G: loads, slices, lengths, composites: values again; all such operations in one function (ev1), and its soundness.
-/
namespace PM
open Go Go.RowKit
/-- The fields' (offset, size). -/
def Jgj (P:Program):List Field→Option (List (Nat×Nat))
 | []=>some []
 | f::fs=>match P.info? f.type,Jgj P fs with
  | some i,some r=>some ((f.offset,i.size)::r)
  | _,_=>none
def Jrx (P:Program) (t:TypeId):Option (List (Nat×Nat)) :=
 match P.underlying t with
 | some (.struct fs)=>Jgj P fs.toList
 | _=>none
/-- The parts are laid over the zero cells. -/
def Jim (pl:List (Nat×Nat)):List (Nat×PV)→List PV→Option (List PV)
 | [],cs=>some cs
 | (i,v)::rest,cs=>match pl[i]? with
  | some (off,n) =>
   if v.cells.length=n∧off+n≤cs.length∧v.cells.all PV.okCell then Jim pl rest (cs.take off++v.cells++cs.drop (off+n)) else none
  | none=>none
 where
 /-- A cell that is known to be one. -/
 PV.okCell:PV→Bool:=PV.one
def Jjw (P:Program) (t:TypeId) (parts:List (Nat×PV)):Option PV :=
 match Jbi P t,Jrx P t,parts,Jp0 P t with
 | some (.agg z),some pl,parts,_=>(Jim pl parts z).map .agg
 | some (.agg z),none,[],some _=>some (.agg z)
 | _,_,_,_=>none
section
variable {P:Program} {Gl:Nat→Option (List PV)} {S0:Bs} {w0:World} {s:PSt} {a:Act} {g:GG} {w:World}
theorem Jvs (d:TypeDesc):d.isRow=Bt d:=by cases d <;> rfl
/-- A bound of a slice expression, present or not. -/
def Jt8 (g:GG):Option PV→Option Value→Prop
 | none,none=>True
 | some p,some v=>Rel g p v
 | _,_=>False
theorem Hc {t:TypeId} {cs:List PV} {r:PV} {B o:Nat} (h:Tx P t cs=some r) (vs:List Value) (hvs:Kv (Wk g) cs vs) (hr:w.rangeAt B o vs) :
  ∃ z,(Instr.loadAt t (.pointer (some ⟨B,o,none⟩))).run P w=.ok z w∧Rel g r z:=by
 unfold Tx at h
 split at h
 ·rename_i n hk
  obtain ⟨i,d,h1,h2,h3⟩:=Mi hk
  obtain ⟨h3a,h3b⟩:=Prod.mk.inj h3
  by_cases hn:n≤cs.length
  ·rw [if_pos hn] at h; cases h
   have hrow:d.isRow=true:=by rw [Jvs]; exact h3a.symm
   have hlen:(vs.take n).length=n:=by rw [List.length_take,← hvs.1]; omega
   refine ⟨_,run_loadAt_mid w B o t (vs.take n) d (fun j v hv=>?_) h2 hrow (by rw [h1,hlen,h3b]; rfl), ?_⟩
   ·rw [List.getElem?_take] at hv
    by_cases hj:j<n
    ·rw [if_pos hj] at hv; exact hr j v hv
    ·rw [if_neg hj] at hv; cases hv
   ·simp only [Rel,Qb]
    refine ⟨_,rfl, ?_⟩
    unfold Jl2
    split
    ·rename_i he
     rw [show (vs.take n)=vs from List.take_of_length_le (by rw [← hvs.1,he]; exact Nat.le_refl _)]
     exact hvs
    ·exact hvs.take n
  ·rw [if_neg hn] at h; cases h
 ·rename_i n hk
  obtain ⟨i,d,h1,h2,h3⟩:=Mi hk
  obtain ⟨h3a,h3b⟩:=Prod.mk.inj h3
  cases cs with
  | nil=>cases h
  | cons c cs =>
   cases h
   obtain ⟨v,vs',rfl,hc,_⟩:=hvs.cons_left
   have Gq:=hr 0 v rfl
   rw [Nat.add_zero] at Gq
   refine ⟨v, ?_,hc.rel⟩
   simp only [Instr.loadAt,Instr.sureAddr,Sem.run_bind,Sem.run_pure,Result.andThen_ok,loadVar,Fy h2,← h3a,Bool.false_eq_true,if_false,load]
   simp [Sem.run,Gq]
 ·cases h
theorem Ug.forC {cs:List PV} {B o:Nat} (h:Ug g.S g.w cs B o):∃ vs,Kv (Wk g) cs vs∧g.w.rangeAt B o vs:=by
 obtain ⟨vs,h1,h2,h3⟩:=h.values
 refine ⟨vs,⟨h1.1,fun i x y hx hy=>?_⟩,h2⟩
 have:=h1.2 i x y hx hy
 have hone:=((Wf cs B o).1 h i x hx).1
 exact ⟨.of_data this hone,(this.oneCell hone).1⟩
theorem Jgm {w:World} {B o:Nat} {vs:List Value} (h:w.rangeAt B o vs) (n:Nat):w.rangeAt B (o+n) (vs.drop n):=fun j v hv=>by
 rw [List.getElem?_drop] at hv
 have:=h _ v hv
 rwa [show o+(n+j)=o+n+j by omega] at this
theorem Jn7 {w:World} {B o:Nat} {vs:List Value} (h:w.rangeAt B o vs) (n:Nat):w.rangeAt B o (vs.take n):=fun j v hv=>by
 rw [List.getElem?_take] at hv
 split at hv
 ·exact h j v hv
 ·cases hv
theorem Jmt {k:Nat}:∀ {xss:List (List PV)} {j:Nat} {cs:List PV},(∀ c∈xss,c.length=k)→xss[j]? = some cs→∀ o,xss.flatten.drop (j * k+o)=cs.drop o++(xss.drop (j+1)).flatten∨cs.length<o
 | [],j,cs,_,h,_=>by simp at h
 | c::r,0,cs,hk,h,o=>by
  simp at h; subst h
  by_cases ho:c.length<o
  ·exact .inr ho
  ·left
   rw [Nat.zero_mul,Nat.zero_add,List.flatten_cons,List.drop_append_of_le_length (by omega)]
   simp
 | c::r,j+1,cs,hk,h,o=>by
  have hc:c.length=k:=hk c (by simp)
  rcases Jmt (k:=k) (xss:=r) (j:=j) (cs:=cs) (fun x hx=>hk x (by simp [hx])) (by simpa using h) o with e|e
  ·left
   rw [List.flatten_cons,List.drop_append,List.drop_eq_nil_of_le (by rw [hc,Nat.succ_mul]; omega),List.nil_append,hc,show (j+1) * k+o - k=j * k+o by rw [Nat.succ_mul]; omega,e]
   simp
  ·exact .inr e
theorem Jl1 (h:Kw Gl S0 w0 s a g) {t:TypeId} {p r:PV} {v:Value} (he:So P Gl s.H s.X t p=some r) (hv:Rel g p v) :
  ∃ z,(Instr.loadAt t v).run P g.w=.ok z g.w∧Rel g r z:=by
 cases p <;> simp only [So] at he <;> try cases he
 case cptr cs =>
  rw [Hq] at hv
  obtain ⟨B,o,rfl,hc⟩:=hv
  obtain ⟨vs,h1,h2⟩:=hc.forC
  exact Hc he vs h1 h2
 case eref tk k N j o =>
  split at he
  ·rename_i k' b' xss hx
   by_cases hc:k'=k∧xss.length=N
   ·rw [if_pos hc] at he
    obtain ⟨rfl,hN⟩:=hc
    obtain ⟨cs,hcs,hl⟩:=Option.bind_eq_some_iff.1 he
    obtain ⟨q1,q2,q3,q4,q5,q6⟩:=h.exs tk _ _ _ hx
    simp only [Rel,Qb,Kx] at hv
    obtain ⟨⟨B,q,rfl⟩,N',r1,r2,r3⟩:=hv
    rw [q1] at r1; cases r1
    obtain ⟨B1,cap1,e1,e2⟩:=r3 hN.symm
    cases e2
    have hj:j<xss.length:=(List.getElem?_eq_some_iff.1 hcs).1
    rcases q6 with ⟨_,rfl⟩|⟨B2,cap2,e3,_,_,_,_,_,⟨vs,v1,v2⟩,_⟩
    ·simp at hj
    ·rw [e3] at e1
     simp only [Value.slice.injEq,Option.some.injEq,Addr.mk.injEq,and_true] at e1
     obtain ⟨rfl,_⟩:=e1
     have h3:=Jgm v2 (j * k'+o)
     rw [Nat.zero_add] at h3
     have h4:Kv (Wk g) (xss.flatten.drop (j * k'+o)) (vs.drop (j * k'+o)):=(v1.mono fun _ _ q=>⟨Kx.of_data q.1 q.2,(q.1.oneCell q.2).1⟩).drop _
     have h5:xss.flatten.drop (j * k'+o)=cs.drop o++(xss.drop (j+1)).flatten∨cs.length<o:=Jmt q3 hcs o
     rcases h5 with h5|h5
     ·rw [h5] at h4
      have h6:=h4.take (cs.drop o).length
      rw [List.take_left'] at h6
      ·exact Hc hl _ h6 (Jn7 h3 _)
      ·rfl
     ·rw [List.drop_eq_nil_of_le (by omega)] at hl
      exact Hc hl [] .nil (fun j v hv=>by simp at hv)
   ·rw [if_neg hc] at he; cases he
  ·cases he
 case ref l o =>
  rw [Fq] at hv
  obtain ⟨rfl,hl⟩:=hv
  split at he
  ·rename_i cs hcs
   obtain ⟨_,_,_,vs,h1,h2,_⟩:=h.objs l _ (by rw [h.hH]; exact hcs)
   have h3:=Jgm h2 o
   rw [Nat.zero_add] at h3
   exact Hc he _ (h1.drop o) h3
  ·cases he
 case gptr i o =>
  rw [Lo] at hv
  subst hv
  split at he
  ·rename_i cs hcs
   obtain ⟨vs,h1,h2⟩:=((h.glob i cs hcs).1.drop o).forC
   rw [Nat.zero_add] at h2
   exact Hc he vs h1 h2
  ·cases he
theorem Bl {x:Option PV} {d n:Nat} {ρ:Option Value} (h:bnd x d=some n) (hρ:Jt8 g x ρ) :
  (x=none∧ρ=none∧n=d)∨∃ (k:IntKind) (m:Int),x=some (.int k m)∧ρ=some (.int k m)∧0≤m∧m=n:=by
 cases x with
 | none =>
  cases ρ with
  | none=>cases h; exact .inl ⟨rfl,rfl,rfl⟩
  | some v=>exact hρ.elim
 | some p =>
  cases ρ with
  | none=>exact hρ.elim
  | some v =>
   cases p <;> simp only [bnd] at h <;> try cases h
   rename_i k m
   by_cases hm:0≤m
   ·rw [if_pos hm] at h; cases h
    have hρ':Rel g (.int k m) v:=hρ
    rw [Uo] at hρ'
    subst hρ'
    exact .inr ⟨k,m,rfl,rfl,hm,by omega⟩
   ·rw [if_neg hm] at h; cases h
/-- What a slice expression's bounds come to. -/
theorem Pr {isS:Bool} {len cap l h m:Nat} {lo hi mx:Option PV} {ρl ρh ρm:Option Value}
  (hl:(lo=none∧ρl=none∧l=0)∨∃ (k:IntKind) (n:Int),lo=some (.int k n)∧ρl=some (.int k n)∧0≤n∧n=l)
  (hh:(hi=none∧ρh=none∧h=len)∨∃ (k:IntKind) (n:Int),hi=some (.int k n)∧ρh=some (.int k n)∧0≤n∧n=h)
  (hm:(mx=none∧ρm=none∧m=len)∨∃ (k:IntKind) (n:Int),mx=some (.int k n)∧ρm=some (.int k n)∧0≤n∧n=m)
  (h1:l≤h) (h2:h≤m) (h3:m≤len) (h4:len≤cap) (h5:mx=none∨hi≠none) :
  (Instr.sliceBounds isS len cap ρl ρh ρm).run P w=.ok (l,h,if mx=none then cap else m) w:=by
 have sb:∀ (k:IntKind) (n:Int) (c y:Nat) (code:BoundsCode),0≤n→n=c→c≤y→(Instr.sliceBound (.int k n) y code).run P w=.ok c w:=fun k n c y code e1 e2 e3=>by
  rw [run_sliceBound w k n y code e1 (by omega)]
  congr 1
  omega
 rcases hm with ⟨rfl,rfl,rfl⟩|⟨km,nm,rfl,rfl,e3,e4⟩
 ·rcases hh with ⟨rfl,rfl,rfl⟩|⟨kh,nh,rfl,rfl,f3,f4⟩ <;> rcases hl with ⟨rfl,rfl,rfl⟩|⟨kl,nl,rfl,rfl,g3,g4⟩
  ·simp [Instr.sliceBounds]
  ·simp [Instr.sliceBounds,sb kl nl l _ _ g3 g4 h1]
  ·simp [Instr.sliceBounds,sb kh nh h cap _ f3 f4 (by omega)]
  ·simp [Instr.sliceBounds,sb kh nh h cap _ f3 f4 (by omega),sb kl nl l _ _ g3 g4 h1]
 ·rcases hh with ⟨rfl,rfl,rfl⟩|⟨kh,nh,rfl,rfl,f3,f4⟩
  ·simp at h5
  ·rcases hl with ⟨rfl,rfl,rfl⟩|⟨kl,nl,rfl,rfl,g3,g4⟩
   ·simp [Instr.sliceBounds,sb km nm m cap _ e3 e4 (by omega),sb kh nh h m _ f3 f4 h2]
   ·simp [Instr.sliceBounds,sb km nm m cap _ e3 e4 (by omega),sb kh nh h m _ f3 f4 h2,sb kl nl l _ _ g3 g4 h1]
theorem Wh.slice {S:Qj} {k:Nat} {xss:List (List PV)} {B o:Nat} (h:Wh S w k xss B o) (l n:Nat):Wh S w k ((xss.take n).drop l) B (o+l * k):=by
 rw [Pu] at h ⊢
 intro i cs hcs
 rw [List.getElem?_drop,List.getElem?_take] at hcs
 by_cases hi:l+i<n
 ·rw [if_pos hi] at hcs
  have:=h _ cs hcs
  rwa [show o+(l+i) * k=o+l * k+i * k by rw [Nat.add_mul]; omega] at this
 ·rw [if_neg hi] at hcs; cases hcs
theorem Jqc {t:TypeId} {lo hi mx:Option PV} {ρl ρh ρm:Option Value} {p r:PV} {v:Value} (he:Nw P t lo hi mx p=some r) (hv:Rel g p v) (hgw:g.w=w)
  (hl:Jt8 g lo ρl)
  (hh:Jt8 g hi ρh)
  (hm:Jt8 g mx ρm) :
  ∃ z,(Instr.sliceAt t v ρl ρh ρm).run P w=.ok z w∧Rel g r z:=by
 subst hgw
 cases p <;> simp only [Nw] at he <;> try cases he
 case lst o k b xss =>
  split at he
  ·rename_i e x k1 b1 l h m hk e1 e2 e3
   split at he
   ·rename_i hc
    obtain ⟨rfl,c1,c2,c3,c4⟩:=hc
    cases he
    obtain ⟨i,d,q1,q2,q3,q4,q5,q6⟩:=Le hk
    have hd:=Jg5 hv
    simp only [Kh] at hd
    obtain ⟨d1,d2,d3,d4⟩:=hd
    have hlen:((xss.take h).drop l).length=h - l:=by rw [List.length_drop,List.length_take]; omega
    have d1':(h - l) * b≤140737488351232:=Nat.le_trans (Nat.mul_le_mul_right _ (by omega)) d1
    have hAt:∀ (base:Option Addr) (len cap:Nat),len=xss.length→len≤cap→(Instr.sliceAt t (.slice base len cap) ρl ρh ρm).run P g.w =
      .ok (.slice (if (if mx=none then cap else m)=l then base else base.map (·.add (l * k1))) (h - l) ((if mx=none then cap else m) - l)) g.w:=by
     intro base len cap hlen' hcap
     subst hlen'
     have hb:=Pr (P:=P) (w:=g.w) (isS:=true) (cap:=cap) (Bl e1 hl) (Bl e2 hh) (Bl e3 hm) c1 c2 c3 hcap c4
     simp only [Instr.sliceAt,Sem.run_bind,run_underlying q1,Result.andThen_ok,Instr.slice,hb,Vu q2,Sem.run_pure,q5]
    rcases d4 with ⟨hbare,hnil⟩|⟨B,off,cap,rfl,d5,d6,d7⟩
    ·subst hnil
     obtain ⟨base,hv0⟩:∃ base,v=.slice base 0 0:=by rcases hbare with e|⟨a,e⟩ <;> exact ⟨_,e⟩
     subst hv0
     have h0:l=0∧h=0∧m=0:=by simp at c3; omega
     obtain ⟨rfl,rfl,rfl⟩:=h0
     refine ⟨_,hAt base 0 0 rfl (Nat.le_refl _), ?_⟩
     have hz:(if mx=none then 0 else 0)=0:=by split <;> rfl
     have:∀ o',(o'=Own.frozen∨o'=Own.full)→Rel g (.lst o' k1 b ((([]:List (List PV)).take 0).drop 0)) (.slice base 0 0):=by
      intro o' ho'
      rcases ho' with rfl|rfl <;> (simp only [Rel,Qb,Kx,Kh]; exact ⟨by simp,by simp,by simp,.inl ⟨hbare,by simp⟩⟩)
     have h2:=this (if mx≠none∧0=0∨o=Own.full∧hi=none then Own.full else Own.frozen) (by split <;> simp)
     simpa [hz] using h2
    ·refine ⟨_,hAt _ _ _ rfl d5, ?_⟩
     have hfrozen:∀ (o':Own) (base:Option Addr) (cap':Nat),(o'=.frozen∨o'=.full)→(o'=.full→cap'=h - l)→h - l≤cap'→(base=some ⟨B,off+l * k1,none⟩∨(h - l=0∧base=some ⟨B,off,none⟩)) →
       Rel g (.lst o' k1 b ((xss.take h).drop l)) (.slice base (h - l) cap'):=by
      intro o' base cap' ho' hf hcap' hbase
      have hD:Kh g.S g.w (.lst o' k1 b ((xss.take h).drop l)) (.slice base (h - l) cap'):=by
       simp only [Kh]
       rw [hlen]
       refine ⟨d1',by omega,ho',.inr ?_⟩
       rcases hbase with rfl|⟨hz,rfl⟩
       ·exact ⟨B,off+l * k1,cap',rfl,hcap',hf,d7.slice l h⟩
       ·refine ⟨B,off,cap',rfl,hcap',hf, ?_⟩
        have hnil:(xss.take h).drop l=[]:=List.eq_nil_of_length_eq_zero (by rw [hlen]; exact hz)
        rw [hnil]
        simp [Wh]
      rcases ho' with rfl|rfl <;> exact hD
     have hC:m≤(if mx=none then cap else m):=by split <;> omega
     have hfull:(if (mx≠none∧m=h)∨(o=.full∧hi=none) then Own.full else Own.frozen)=.full→(if mx=none then cap else m) - l=h - l:=by
      intro hfull
      split at hfull
      ·rename_i hor
       rcases hor with ⟨hmx,rfl⟩|⟨rfl,rfl⟩
       ·rw [if_neg hmx]
       ·cases mx with
        | some _=>simp at c4
        | none =>
         simp only [if_true]
         have hcap2:cap=xss.length:=by
          have hv':Kh g.S g.w (.lst .full k1 b xss) (.slice (some ⟨B,off,none⟩) xss.length cap):=hv
          simp only [Kh] at hv'
          obtain ⟨_,_,_,⟨hh',_⟩|⟨_,_,_,hh',_,hf,_⟩⟩:=hv'
          ·rcases hh' with hh'|⟨a,hh'⟩
           ·cases hh'
           ·simp only [Value.slice.injEq] at hh'; omega
          ·cases hh'; exact hf trivial
         have:h=xss.length:=by
          rcases Bl e2 hh with ⟨_,_,e⟩|⟨_,_,e,_⟩
          ·exact e
          ·cases e
         omega
      ·cases hfull
     generalize (if mx=none then cap else m)=C at *
     refine hfrozen _ _ _ ?_ hfull (by omega) ?_
     ·split <;> simp
     ·by_cases hz:C=l
      ·exact .inr ⟨by omega,by rw [if_pos hz]⟩
      ·left; rw [if_neg hz]; simp only [Option.map_some,Addr.add_lit]
   ·cases he
  ·cases he
 case nil =>
  have hv':v=.slice none 0 0:=by simpa [Rel,Qb,Kx,Kh] using hv
  subst hv'
  split at he
  ·rename_i x hk e1 e2 e3
   by_cases c4:mx=none∨hi≠none
   ·rw [if_pos c4] at he; cases he
    obtain ⟨e,x2,k1,b1⟩:=x
    obtain ⟨i,d,q1,q2,q3,q4,q5,q6⟩:=Le hk
    have hb:=Pr (P:=P) (w:=g.w) (isS:=true) (len:=0) (cap:=0) (Bl e1 hl) (Bl e2 hh) (Bl e3 hm) (Nat.le_refl 0) (Nat.le_refl 0) (Nat.le_refl 0) (Nat.le_refl 0) c4
    have hz:(if mx=none then 0 else 0)=0:=by split <;> rfl
    rw [hz] at hb
    exact ⟨.slice none 0 0,by simp only [Instr.sliceAt,Sem.run_bind,run_underlying q1,Result.andThen_ok,Instr.slice,hb,Vu q2,Sem.run_pure,if_true,Nat.sub_self],by simp [Rel,Qb,Kx,Kh]⟩
   ·rw [if_neg c4] at he; cases he
  ·cases he
 case sl l o len k b =>
  split at he
  ·rename_i e x k1 b1 a h hk e1 e2
   split at he
   ·rename_i hc
    obtain ⟨rfl,c1,c2,rfl⟩:=hc
    cases he
    obtain ⟨i,d,q1,q2,q3,q4,q5,q6⟩:=Le hk
    have hρm:ρm=none:=by cases ρm with|none=>rfl|some _=>exact hm.elim
    subst hρm
    simp only [Rel,Qb,Kx] at hv
    obtain ⟨⟨off,cap,rfl,hcap,hoff⟩,cs,hcs,hlen⟩:=hv
    have hb:=Pr (P:=P) (w:=g.w) (isS:=true) (len:=len) (cap:=cap) (m:=len) (mx:=none) (ρm:=none) (Bl e1 hl) (Bl e2 hh) (.inl ⟨rfl,rfl,rfl⟩) c1 c2 (Nat.le_refl _) hcap (.inl rfl)
    refine ⟨_,by simp only [Instr.sliceAt,Sem.run_bind,run_underlying q1,Result.andThen_ok,Instr.slice,hb,Vu q2,Sem.run_pure,if_true]; rfl, ?_⟩
    simp only [Rel,Qb,Kx]
    have hle:(o+a+(h - a)) * k1≤(o+len) * k1:=Nat.mul_le_mul_right _ (by omega)
    by_cases hz:cap=a
    ·rw [if_pos hz]
     exact ⟨⟨off,cap - a,rfl,by omega,.inr (by omega)⟩,cs,hcs,by omega⟩
    ·rw [if_neg hz]
     refine ⟨⟨off+a * i.size,cap - a,by simp only [Option.map_some,Addr.add_lit],by omega, ?_⟩,cs,hcs,by omega⟩
     rcases hoff with rfl|h0
     ·left; rw [← q5,Nat.add_mul]
     ·right; omega
   ·cases he
  ·cases he
 case ex tk k b N o len =>
  split at he
  ·rename_i e x k1 b1 a h hk e1 e2
   split at he
   ·rename_i hc
    obtain ⟨rfl,c1,c2,rfl⟩:=hc
    cases he
    obtain ⟨i,d,q1,q2,q3,q4,q5,q6⟩:=Le hk
    have hρm:ρm=none:=by cases ρm with|none=>rfl|some _=>exact hm.elim
    subst hρm
    simp only [Rel,Qb,Kx] at hv
    obtain ⟨⟨base,cap,rfl,hcap,hbase⟩,N',r1,r2,r3⟩:=hv
    have hb:=Pr (P:=P) (w:=g.w) (isS:=true) (len:=len) (cap:=cap) (m:=len) (mx:=none) (ρm:=none) (Bl e1 hl) (Bl e2 hh) (.inl ⟨rfl,rfl,rfl⟩) c1 c2 (Nat.le_refl _) hcap (.inl rfl)
    refine ⟨_,by simp only [Instr.sliceAt,Sem.run_bind,run_underlying q1,Result.andThen_ok,Instr.slice,hb,Vu q2,Sem.run_pure,if_true]; rfl, ?_⟩
    simp only [Rel,Qb,Kx]
    refine ⟨⟨_,_,rfl,by omega,fun hp=>?_⟩,N',r1,r2,fun e=>?_⟩
    ·obtain ⟨B,off,rfl⟩:=hbase (by omega)
     rw [if_neg (by omega)]
     exact ⟨B,off+a * i.size,by simp only [Option.map_some,Addr.add_lit]⟩
    ·rcases r3 e with ⟨s1,s2,s3,s4⟩|⟨B,cap',off,s1,s2,s3,s4,s5,s6⟩
     ·subst s3; subst s4
      obtain rfl:a=0:=by omega
      obtain rfl:h=0:=by omega
      left
      refine ⟨?_,s2,rfl,rfl⟩
      rw [← s1]
      by_cases hz:cap=0
      ·subst hz; simp
      ·rw [if_neg hz]
       cases base with
       | none=>simp
       | some ad=>simp [Addr.add]
     ·simp only [Value.slice.injEq] at s5
      obtain ⟨rfl,_,rfl⟩:=s5
      refine .inr ⟨B,cap',if cap' - o=a then off else off+a * i.size,s1,s2,s3,by omega, ?_, ?_⟩
      ·rw [show cap' - o - a=cap' - (o+a) by omega]
       by_cases hz:cap' - o=a
       ·rw [if_pos hz,if_pos hz]
       ·rw [if_neg hz,if_neg hz]; simp only [Option.map_some,Addr.add_lit]
      ·by_cases hz:cap' - o=a
       ·right; omega
       ·rw [if_neg hz]
        rcases s6 with rfl|s6
        ·left; rw [← q5,Nat.add_mul]
        ·right; omega
   ·cases he
  ·cases he
 case str st =>
  rw [Jcr] at hv; subst hv
  split at he
  ·rename_i l h e1 e2
   split at he
   ·rename_i hc
    obtain ⟨c1,c2,c3,rfl⟩:=hc
    cases he
    have hρm:ρm=none:=by cases ρm with|none=>rfl|some _=>exact hm.elim
    subst hρm
    have hb:=Pr (P:=P) (w:=g.w) (isS:=false) (len:=st.size) (cap:=st.size) (m:=st.size) (mx:=none) (ρm:=none) (Bl e1 hl) (Bl e2 hh) (.inl ⟨rfl,rfl,rfl⟩) c2 c3 (Nat.le_refl _) (Nat.le_refl _) (.inl rfl)
    exact ⟨_,by simp [Instr.sliceAt,Sem.run_bind,run_underlying (Oe c1),Instr.slice,hb],Jcr.2 rfl⟩
   ·cases he
  ·cases he
theorem Jtj {t:TypeId} (h:Jyj P t=true):∃ k e,P.underlying t=some (.map k e):=by
 unfold Jyj at h
 split at h
 ·rename_i k e he; exact ⟨k,e,he⟩
 ·cases h
theorem Jto (h:Kw Gl S0 w0 s a g) {t ty:TypeId} {p r:PV} {v:Value} (he:Jpg P s.H t p=some r) (hv:Rel g p v):∃ z,(Builtin.len_ #[t] ty #[v]).run P g.w=.ok z g.w∧Rel g r z:=by
 cases p <;> simp only [Jpg] at he <;> try cases he
 case lst o k b xss =>
  split at he
  ·rename_i hs
   cases he
   obtain ⟨e,hu⟩:=Gm hs
   have hd:=Jg5 hv
   simp only [Kh] at hd
   obtain ⟨_,_,_,⟨rfl|⟨_,rfl⟩,rfl⟩|⟨B,off,cap,rfl,_⟩⟩:=hd
   ·exact ⟨_,by simp [Builtin.len_,run_underlying hu,goInt],Uo.2 rfl⟩
   ·exact ⟨_,by simp [Builtin.len_,run_underlying hu,goInt],Uo.2 rfl⟩
   ·exact ⟨_,by simp [Builtin.len_,run_underlying hu,goInt],Uo.2 rfl⟩
  ·cases he
 case sl l o n k b =>
  split at he
  ·rename_i hs
   cases he
   obtain ⟨e,hu⟩:=Gm hs
   simp only [Rel,Qb,Kx] at hv
   obtain ⟨⟨_,_,rfl,_⟩,_⟩:=hv
   exact ⟨_,by simp [Builtin.len_,run_underlying hu,goInt],Uo.2 rfl⟩
  ·cases he
 case ex tk k b N o n =>
  split at he
  ·rename_i hs
   cases he
   obtain ⟨e,hu⟩:=Gm hs
   simp only [Rel,Qb,Kx] at hv
   obtain ⟨⟨_,_,rfl,_⟩,_⟩:=hv
   exact ⟨_,by simp [Builtin.len_,run_underlying hu,goInt],Uo.2 rfl⟩
  ·cases he
 case nil =>
  split at he
  ·rename_i hs
   cases he
   obtain ⟨e,hu⟩:=Gm hs
   have hv':v=.slice none 0 0:=by simpa [Rel,Qb,Kx,Kh] using hv
   subst hv'
   exact ⟨_,by simp [Builtin.len_,run_underlying hu,goInt],Uo.2 rfl⟩
  ·cases he
 case str st =>
  split at he
  ·rename_i hs
   cases he
   rw [Jcr] at hv; subst hv
   exact ⟨_,by simp [Builtin.len_,run_underlying (Oe hs),goInt],Uo.2 rfl⟩
  ·cases he
 case mp l =>
  split at he
  ·rename_i es hes
   split at he
   ·rename_i hs
    cases he
    obtain ⟨k,e,hu⟩:=Jtj hs
    simp only [Rel,Qb,Kx] at hv
    obtain ⟨rfl,_⟩:=hv
    obtain ⟨_,_,_,arr,clock,h1,h2⟩:=h.objs l _ (by rw [h.hH]; exact hes)
    refine ⟨.int .i64 arr.size, ?_,Uo.2 (by rw [h2.1]; simp)⟩
    simp [Builtin.len_,run_underlying hu,goInt,getObj,Sem.run,h1]
   ·cases he
  ·cases he
end
end PM
/-
 THE PURE MACHINE, H: composites; ev1: all operations that yield a value and leave memory alone, and their soundness.
-/
namespace PM
open Go Go.RowKit
theorem Jhn (off:Nat):∀ (vs:List Value) (k:Nat) (cells:Array Value),off+k+vs.length≤cells.size →
  ((vs.zipIdx k).foldl (fun cs (x:Value×Nat)=>cs.setIfInBounds (off+x.2) x.1) cells).toList=cells.toList.take (off+k)++vs++cells.toList.drop (off+k+vs.length)
 | [],k,cells,_=>by simp
 | v::vs,k,cells,h=>by
  simp only [List.zipIdx_cons,List.foldl_cons]
  have hk:off+k<cells.size:=by simp at h; omega
  rw [Jhn off vs (k+1) _ (by simp at h ⊢; omega)]
  have e:=list_seg_step cells.toList (off+k) v vs (by simp at h ⊢; omega)
  simpa [Array.toList_setIfInBounds,Nat.add_assoc] using e
section
variable {P:Program} {Gl:Nat→Option (List PV)} {S0:Bs} {w0:World} {s:PSt} {a:Act} {g:GG} {w:World}
/-- A value's cells, where each is known to be one. -/
theorem Rel.cells {p:PV} {v:Value} (h:Rel g p v) (hone:p.cells.all PV.one=true):Kv (Wk g) p.cells v.cells.toList:=by
 cases p
 case agg cs =>
  simp only [Rel,Qb] at h
  obtain ⟨arr,rfl,h2⟩:=h
  exact h2
 case any=>simp [PV.cells,PV.one] at hone
 case tup vs=>simp [PV.cells,PV.one] at hone
 all_goals
  (simp only [Rel,Qb] at h
   obtain ⟨e1,e2⟩:=h.oneCell rfl
   rw [e2]
   exact .cons ⟨h,e1⟩ .nil)
theorem Jnb {pl:List (Nat×Nat)} {place:Nat→Option (Nat×Nat)} (hpl:∀ i,place i=pl[i]?):∀ (parts:List (Nat×PV)) (vparts:List (Nat×Value)) (cs cs':List PV) (cells:Array Value),
  Kv (fun (x:Nat×PV) (y:Nat×Value)=>x.1=y.1∧Rel g x.2 y.2) parts vparts→Kv (Wk g) cs cells.toList→Jim pl parts cs=some cs' →
  ∃ cells',Instr.fill place cells vparts=some cells'∧Kv (Wk g) cs' cells'.toList
 | [],vparts,cs,cs',cells,hp,hc,h=>by
  rw [hp.nil_left]
  simp only [Jim] at h; cases h
  exact ⟨cells,rfl,hc⟩
 | (i,p)::parts,vparts,cs,cs',cells,hp,hc,h=>by
  obtain ⟨⟨j,v⟩,vparts',rfl,⟨e1,e2⟩,hp'⟩:=hp.cons_left
  simp only at e1 e2
  subst e1
  simp only [Jim] at h
  split at h
  ·rename_i off n hin
   split at h
   ·rename_i hcond
    obtain ⟨c1,c2,c3⟩:=hcond
    have hone:p.cells.all PV.one=true:=c3
    have hcells:=e2.cells hone
    have hvn:v.cells.size=n:=by rw [← c1,hcells.1]; simp
    have hsz:cells.size=cs.length:=by rw [hc.1]; simp
    have hset:=Jhn off v.cells.toList 0 cells (by simp [hvn]; omega)
    simp only [Nat.add_zero] at hset
    obtain ⟨cells',f1,f2⟩:=Jnb hpl parts vparts' _ cs' (v.cells.zipIdx.foldl (fun cs (x:Value×Nat)=>cs.setIfInBounds (off+x.2) x.1) cells) hp' (by
     have:(v.cells.zipIdx.foldl (fun cs (x:Value×Nat)=>cs.setIfInBounds (off+x.2) x.1) cells).toList=cells.toList.take off++v.cells.toList++cells.toList.drop (off+n):=by
      rw [← Array.foldl_toList,Array.toList_zipIdx,hset]
      simp [hvn]
     rw [this]
     exact ((hc.take off).append hcells).append (hc.drop (off+n))) h
    refine ⟨cells', ?_,f2⟩
    unfold Instr.fill
    rw [hpl,hin]
    simp only
    rw [if_neg (by simp [hvn]; omega)]
    exact f1
   ·cases h
  ·cases h
theorem Jgh : ∀ {fs:List Field} {pl:List (Nat×Nat)},Jgj P fs=some pl→fs.mapM (fun f=>(P.info? f.type).map fun i=>(f.offset,i.size))=some pl
 | [],pl,h=>by simp [Jgj] at h; simp [h]
 | f::fs,pl,h=>by
  simp only [Jgj] at h
  split at h
  ·rename_i i r h1 h2
   cases h
   simp [h1,Jgh h2]
  ·cases h
theorem Jiq {v:Value} {z:List PV} (h:Gw v=.agg z):∃ arr,v=.agg arr∧z=arr.toList.map Cw:=by
 cases v
 case agg arr=>simp only [Gw] at h; cases h; exact ⟨arr,rfl,rfl⟩
 all_goals
  (simp only [Gw] at h
   unfold Cw at h
   split at h <;> cases h)
theorem Jf5 {arr:Array Value} (h1:∀ v∈arr,v.oneCell'=true):Kv (Wk g) (arr.toList.map Cw) arr.toList :=
 ⟨by simp,fun i x y hx hy=>by
  rw [List.getElem?_map,hy] at hx
  cases hx
  exact Jnj y (h1 y (by have:=List.mem_of_getElem? hy; simpa using this)) g⟩
theorem Jqn {t:TypeId} {parts:List (Nat×PV)} {vparts:Array (Nat×Value)} {r:PV} (he:Jjw P t parts=some r)
  (hp:Kv (fun (x:Nat×PV) (y:Nat×Value)=>x.1=y.1∧Rel g x.2 y.2) parts vparts.toList):∃ z,(Instr.build t vparts).run P w=.ok z w∧Rel g r z:=by
 unfold Jjw at he
 split at he
 ·rename_i z pl h1 h2
  obtain ⟨cs',h3,rfl⟩:=Option.map_eq_some_iff.1 he
  obtain ⟨i,zv,hi,hzv,hz2,hone⟩:=Pt h1
  obtain ⟨arr,rfl,rfl⟩:=Jiq hz2
  unfold Jrx at h2
  split at h2
  ·rename_i fs hu
   have hpl:=Jgh h2
   obtain ⟨cells',f1,f2⟩:=Jnb (g:=g) (pl:=pl) (place:=(pl.toArray[·]?)) (by simp) _ vparts.toList _ cs' arr hp (Jf5 fun v hv=>hone v (by simpa [Value.cells] using hv)) h3
   refine ⟨.agg cells',run_build w t vparts cells' ?_,by simp only [Rel,Qb]; exact ⟨cells',rfl,f2⟩⟩
   unfold Program.built
   simp only [hi,hu,hzv,hpl,Value.cells]
   exact f1
  ·cases h2
 ·rename_i z x h1 h2 h3
  cases he
  obtain ⟨i,zv,hi,hzv,hz2,hone⟩:=Pt h1
  obtain ⟨arr,rfl,rfl⟩:=Jiq hz2
  obtain ⟨n,row,k⟩:=x
  obtain ⟨e,ie,d,a1,a2,a3,a4,a5⟩:=Jds h3
  have hv:vparts.toList=[]:=hp.nil_left
  refine ⟨.agg arr,run_build w t vparts arr ?_,by simp only [Rel,Qb]; exact ⟨arr,rfl,Jf5 fun v hv=>hone v (by simpa [Value.cells] using hv)⟩⟩
  unfold Program.built
  simp only [hi,a1,hzv,a2,Value.cells,hv,Instr.fill]
 ·cases he
end
/-- All operations that yield a value and leave memory alone. -/
def ev1 (P:Program) (Gl:Nat→Option (List PV)) (op:Op) (ρ:Operand→PV) (H:Nat→Option Qv) (X:XT):Option PV :=
 match op with
 | .move x=>some (ρ x)
 | .assign x=>some (ρ x)
 | .pick c x y=>match ρ c with|.bool c=>some (if c=true then ρ x else ρ y)|_=>none
 | .nilCheck x=>match ρ x with|.ref l o=>some (.ref l o)|.cptr cs=>some (.cptr cs)|.gptr i o=>some (.gptr i o)|.fn f caps=>some (.fn f caps)|.eref t k N j o=>some (.eref t k N j o)|_=>none
 | .binOp op t x y _=>Jkc P op t (ρ x) (ρ y)
 | .unOp op _ x=>Jx9 op (ρ x)
 | .convert src dst x=>Jq1 P src dst (ρ x)
 | .fieldAddr t x f=>Md P t f (ρ x)
 | .field t x f=>Jno P t f (ρ x)
 | .indexAddr t x i=>Lz P t (ρ x) (ρ i)
 | .index t x i=>Jgl P t (ρ x) (ρ i)
 | .load t x=>So P Gl H X t (ρ x)
 | .extract x i=>match ρ x with|.tup vs=>vs[i]? | _=>none
 | .slice t x lo hi mx=>Nw P t (lo.map ρ) (hi.map ρ) (mx.map ρ) (ρ x)
 | .build t parts=>Jjw P t (parts.toList.map fun x=>(x.1,ρ x.2))
 | .lookup t x k ok=>match ρ x with
  | .mp l=>match H l with
   | some (.map es)=>Hf P t es (ρ k) ok
   | some (.mapo es k' b tk)=>Oj P t es k' b tk (ρ k) ok
   | _=>none
  | .fmp ks vs=>Hf P t (ks.zip vs) (ρ k) ok
  | _=>none
 | .makeFunc (.func f) first caps=>if first.toList=[]∧((caps.toList.map ρ).all Bh)=true then some (.fn f (caps.toList.map ρ)) else none
 | .call c=>match c.callee,c.args.toList,c.argTypes.toList with
  | .builtin .len,[x],[t]=>Jpg P H t (ρ x)
  | .builtin .min,[x,y],_=>Ly false (ρ x) (ρ y)
  | .builtin .max,[x,y],_=>Ly true (ρ x) (ρ y)
  | _,_,_=>none
 | _=>none
section
variable {P:Program} {Gl:Nat→Option (List PV)} {S0:Bs} {w0:World} {s:PSt} {a:Act} {g:GG} {w:World}
theorem Lb {α:Type} {xs:Array α} {x:α} (h:xs.toList=[x]):xs=#[x]:=Array.toList_inj.1 (by simpa using h)
theorem Ld {α:Type} {xs:Array α} {x y:α} (h:xs.toList=[x,y]):xs=#[x,y]:=Array.toList_inj.1 (by simpa using h)
theorem Jrk {α:Type} {xs:Array α} (h:xs.toList=[]):xs=#[]:=Array.toList_inj.1 (by simpa using h)
theorem Jk6 (h:Kw Gl S0 w0 s a g) (x:Option Operand):Jt8 g (x.map s.ev) (x.map a.eval):=by
 cases x with
 | none=>trivial
 | some x=>exact h.ev x
theorem Jw6 {p q r:PV} {ts:Array TypeId} {ty:TypeId} {u v:Value} (h:Ly false p q=some r) (hu:Rel g p u) (hv:Rel g q v) :
  ∃ z,(Builtin.min_ ts ty #[u,v]).run P w=.ok z w∧Rel g r z:=by
 cases p <;> cases q <;> simp only [Ly] at h <;> try cases h
 rename_i k x k' y
 rw [Uo] at hu hv
 subst hu; subst hv
 by_cases hk:k=k'
 ·rw [if_pos hk] at h; cases h
  refine ⟨_,by simp [Builtin.min_,Builtin.min2]; rfl,Uo.2 ?_⟩
  simp only [Bool.false_eq_true,if_false]
  congr 1
  show (if y<x then y else x)=min x y
  split <;> omega
 ·rw [if_neg hk] at h; cases h
theorem Jwd {p q r:PV} {ts:Array TypeId} {ty:TypeId} {u v:Value} (h:Ly true p q=some r) (hu:Rel g p u) (hv:Rel g q v) :
  ∃ z,(Builtin.max_ ts ty #[u,v]).run P w=.ok z w∧Rel g r z:=by
 cases p <;> cases q <;> simp only [Ly] at h <;> try cases h
 rename_i k x k' y
 rw [Uo] at hu hv
 subst hu; subst hv
 by_cases hk:k=k'
 ·rw [if_pos hk] at h; cases h
  refine ⟨_,by simp [Builtin.max_,Builtin.max2]; rfl,Uo.2 ?_⟩
  simp only [if_true]
  congr 1
  show (if y>x then y else x)=max x y
  split <;> omega
 ·rw [if_neg hk] at h; cases h
theorem Rel.ofFlat {p:PV} {v:Value} (h:Kh g.S g.w p v) (hf:Nm p=true):Qb g p v:=by
 cases p
 case agg cs =>
  simp only [Kh] at h
  obtain ⟨arr,h1,h2⟩:=h
  simp only [Qb]
  refine ⟨arr,h1,((Vr _ _).1 h2).1,fun i x y hx hy=>?_⟩
  have h3:=((Vr _ _).1 h2).2 i x y hx hy
  have h4:=List.all_eq_true.1 hf x (List.mem_of_getElem? hx)
  exact ⟨.of_data h3 h4,(h3.oneCell h4).1⟩
 case tup vs=>simp [Nm] at hf
 case any=>simp [Nm] at hf
 all_goals exact Kx.relA' (.of_data h rfl)
theorem Jmw {t:TypeId} {z:PV} (h:Jbi P t=some z):∃ i zv,P.info? t=some i∧i.zero=some zv∧Rel g z zv:=by
 obtain ⟨i,zv,hi,h1,h2,hone⟩:=Pt h
 refine ⟨i,zv,hi,h1, ?_⟩
 rw [← h2]
 cases zv
 case agg arr =>
  simp only [Gw,Rel,Qb]
  exact ⟨arr,rfl,Jf5 fun v hv=>hone v (by simpa [Value.cells] using hv)⟩
 all_goals
  (have:=Jac g
   simp only [Gw]
   exact this _)
theorem Ot {t:TypeId} {d:TypeDesc} {z:PV} (h:Tn P t=some (d,z)):∃ k e,P.underlying t=some (.map k e)∧P.underlying k=some d∧Jbi P e=some z∧Nm z=true∧Jhi P k d=true:=by
 unfold Tn at h
 split at h
 ·rename_i k e hm
  split at h
  ·rename_i d' z' hd hz
   split at h
   ·rename_i hf; cases h; exact ⟨k,e,hm,hd,hz,hf.1,hf.2⟩
   ·cases h
  ·cases h
 ·cases h
theorem Jry {S:Qj} {d:TypeDesc} {k:PV} {v:Value} (hs:∀ fs,d≠.struct fs) (h:Cx d k=true) (hr:Kh S w k v):MapKept.IsKey d v:=by
 cases d <;> cases k <;> simp [Cx] at h <;> first|exact absurd rfl (hs _)|(simp only [Kh] at hr; subst hr; simp [MapKept.IsKey,h])
theorem Jau {S:Qj} {d:TypeDesc} {k e:PV} {u v:Value} {b:Bool} (hs:∀ fs,d≠.struct fs) (hd:Cx d k=true) (hk:Kh S w k u) (he:Kh S w e v) (h:Ja0 k e=some b):Instr.sameNow d u v=some b∧(b=true→v=u):=by
 cases d <;> first|exact absurd rfl (hs _)|skip
 all_goals (cases k <;> simp [Cx] at hd)
 all_goals (cases e <;> simp [Ja0] at h)
 all_goals (simp only [Kh] at hk he; subst hk; subst he)
 case int.int.int k3 k1 a k2 c =>
  obtain ⟨h1,h2⟩:=h
  subst h1; subst hd; subst h2
  simp only [Instr.sameNow,if_true,decide_eq_true_eq]
  exact ⟨by rw [Joy],fun e=>by rw [e]⟩
 case bool.bool.bool a c =>
  subst h
  simp only [Instr.sameNow,decide_eq_true_eq]
  exact ⟨by cases a <;> cases c <;> rfl,fun e=>by rw [e]⟩
 case string.str.str a c =>
  subst h
  simp only [Instr.sameNow,decide_eq_true_eq]
  refine ⟨?_,fun e=>by rw [e]⟩
  congr 1
  by_cases hac:a=c
  ·subst hac; simp [MapKept.bytes_beq]
  ·rw [decide_eq_false hac]
   cases hb:(a == c) with
   | false=>rfl
   | true=>exact absurd ((MapKept.bytes_beq a c).1 hb) hac
theorem Jku {S:Qj} {d:TypeDesc} {k:PV} {kv:Value} (hs:∀ fs,d≠.struct fs) (hd:Cx d k=true) (hk:Kh S w k kv):∀ {es:List (PV×PV)} {l:List MapEntry} (i:Nat) {r:Option PV},Kv (Jf0 S w) es l→Jc6 k es=some r →
  (r=none∧Instr.findNow d kv l i=some none)∨∃ j m p,r=some p∧Instr.findNow d kv l i=some (some (i+j,m.val))∧l[j]? = some m∧m.key=kv∧Kh S w p m.val∧Nm p=true
 | [],l,i,r,ha,h=>by
  rw [ha.nil_left]
  simp only [Jc6] at h; cases h
  exact .inl ⟨rfl,rfl⟩
 | e::es,l,i,r,ha,h=>by
  obtain ⟨m,l',rfl,h1,h2⟩:=ha.cons_left
  simp only [Jc6] at h
  split at h
  ·rename_i hq
   cases h
   obtain ⟨h3,h4⟩:=Jau hs hd hk h1.1 hq
   exact .inr ⟨0,m,e.2,rfl,by simp [Instr.findNow,h3],rfl,h4 rfl,h1.2.1,h1.2.2⟩
  ·rename_i hq
   obtain ⟨h3,_⟩:=Jau hs hd hk h1.1 hq
   rcases Jku hs hd hk (i+1) h2 h with ⟨h4,h5⟩|⟨j,m',p,h4,h5,h6,h7⟩
   ·exact .inl ⟨h4,by simp [Instr.findNow,h3,h5]⟩
   ·exact .inr ⟨j+1,m',p,h4,by simp [Instr.findNow,h3,h5]; omega,by simpa using h6,h7⟩
  ·cases h
/-! Keys of two numbers. -/
theorem Jdt {S:Qj} {x y:Int} {v:Value}:Kh S w (.agg [.int .i64 x,.int .i64 y]) v↔v=.agg #[.int .i64 x,.int .i64 y]:=by
 simp only [Kh,Eg]
 constructor
 ·rintro ⟨arr,rfl,v1,vs,e1,rfl,v2,vs2,rfl,rfl,rfl⟩
  congr 1
  exact Array.ext' e1
 ·rintro rfl
  exact ⟨_,rfl,_,_,rfl,rfl,_,_,rfl,rfl,rfl⟩
theorem Dk {fs:Array Field} {k:PV} (h:Cx (.struct fs) k=true):∃ x y,k=.agg [.int .i64 x,.int .i64 y]:=by
 unfold Cx at h
 split at h <;> first|exact ⟨_,_,rfl⟩|contradiction|cases h
theorem Jpe {x y:Int} {q:PV} {b:Bool} (h:Ja0 (.agg [.int .i64 x,.int .i64 y]) q=some b):∃ x' y',q=.agg [.int .i64 x',.int .i64 y']∧b=(decide (x=x')&&decide (y=y')):=by
 unfold Ja0 at h
 split at h <;> first|contradiction|skip
 ·rename_i h1
  simp only [PV.agg.injEq,List.cons.injEq,PV.int.injEq,true_and,and_true] at h1
  obtain ⟨rfl,rfl⟩:=h1
  cases h
  exact ⟨_,_,rfl,rfl⟩
theorem Jdh {x y:Int} {v:Value} (h:Rel g (.agg [.int .i64 x,.int .i64 y]) v):Kh g.S g.w (.agg [.int .i64 x,.int .i64 y]) v:=by
 simp only [Rel,Qb] at h
 obtain ⟨arr,rfl,h2⟩:=h
 obtain ⟨v1,l1,q1,r1,h3⟩:=h2.cons_left
 obtain ⟨v2,l2,q2,r2,h4⟩:=h3.cons_left
 have e1:v1=.int .i64 x:=by simpa [Kx,Kh] using r1.1
 have e2:v2=.int .i64 y:=by simpa [Kx,Kh] using r2.1
 rw [Jdt]
 congr 1
 refine Array.ext' ?_
 rw [q1,q2,h4.nil_left,e1,e2]
theorem Jk9 {kt:TypeId} {fs:Array Field} (hu:P.underlying kt=some (.struct fs)) (h:Jii P kt=true):(∃ f1 f2,fs=#[f1,f2]∧P.underlying f1.type=some (.int .i64)∧P.underlying f2.type=some (.int .i64)∧f1.offset=0∧f2.offset=1)∧Jf8 P 10000 kt=some [.i .i64,.i .i64]:=by
 unfold Jii at h
 rw [hu] at h
 simp only [Bool.and_eq_true] at h
 obtain ⟨h1,h2⟩:=h
 have i64:∀ {t},Joq P t=true→P.underlying t=some (.int .i64):=fun {t} e=>by
  unfold Joq at e
  split at e
  ·assumption
  ·cases e
 constructor
 ·split at h1
  ·rename_i f1 f2 hf
   simp only [Bool.and_eq_true,decide_eq_true_eq] at h1
   exact ⟨f1,f2,Array.ext' hf,i64 h1.1.1.1,i64 h1.1.1.2,h1.1.2,h1.2⟩
  ·cases h1
 ·split at h2
  ·assumption
  ·cases h2
theorem Jgv {kt:TypeId} {fs:Array Field} (hu:P.underlying kt=some (.struct fs)) (h:Jii P kt=true) (e:Bool) (n:Nat) (x y:Int):(Instr.checkKey e (n+2) kt (.agg #[.int .i64 x,.int .i64 y])).run P w=.ok () w:=by
 obtain ⟨⟨f1,f2,rfl,h1,h2,h3,h4⟩,_⟩:=Jk9 hu h
 have c1:∀ z:Int,(Instr.checkKey e (n+1) f1.type (.int .i64 z)).run P w=.ok () w:=fun z=>by simp [Instr.checkKey,run_underlying h1]
 have c2:∀ z:Int,(Instr.checkKey e (n+1) f2.type (.int .i64 z)).run P w=.ok () w:=fun z=>by simp [Instr.checkKey,run_underlying h2]
 have a1:=Fy h1 w
 have a2:=Fy h2 w
 simp only [Bt] at a1 a2
 unfold Instr.checkKey
 by_cases n1:f1.name = "_" <;> by_cases n2:f2.name = "_" <;> simp [run_underlying hu,part,a1,a2,h3,h4,c1,c2,n1,n2]
theorem Jlk {kt:TypeId} {fs:Array Field} (hu:P.underlying kt=some (.struct fs)) (h:Jii P kt=true) (x y x' y':Int):(Op.equal kt (.agg #[.int .i64 x,.int .i64 y]) (.agg #[.int .i64 x',.int .i64 y'])).run P w=.ok (decide (x=x')&&decide (y=y')) w:=by
 have:=Hn (P:=P) 10000 kt _ _ [.int .i64 x,.int .i64 y] [.int .i64 x',.int .i64 y'] w (Jk9 hu h).2 hu rfl rfl
 simp only [Ja9,Bt,if_true,Wi,Jda,Joy,Bool.and_true] at this
 exact this
theorem Jge {S:Qj} {kt:TypeId} {fs:Array Field} (hu:P.underlying kt=some (.struct fs)) (hp:Jii P kt=true) {x y:Int} {q:PV} {u:Value} {b:Bool} (hq:Ja0 (.agg [.int .i64 x,.int .i64 y]) q=some b) (hr:Kh S w q u) :
  (Op.equal kt (.agg #[.int .i64 x,.int .i64 y]) u).run P w=.ok b w∧(b=true→u=.agg #[.int .i64 x,.int .i64 y]):=by
 obtain ⟨x',y',e1,rfl⟩:=Jpe hq
 rw [e1,Jdt] at hr
 rw [hr]
 refine ⟨Jlk hu hp _ _ _ _,fun hb=>?_⟩
 simp only [Bool.and_eq_true,decide_eq_true_eq] at hb
 rw [hb.1,hb.2]
theorem Jbl {S:Qj} {kt:TypeId} {fs:Array Field} (hu:P.underlying kt=some (.struct fs)) (hp:Jii P kt=true) {x y:Int}:∀ {es:List (PV×PV)} {l:List MapEntry} (i:Nat) {r:Option PV},Kv (Jf0 S w) es l→Jc6 (.agg [.int .i64 x,.int .i64 y]) es=some r →
  (r=none∧(Instr.findAsking kt (.agg #[.int .i64 x,.int .i64 y]) l i).run P w=.ok none w)∨∃ j m p,r=some p∧(Instr.findAsking kt (.agg #[.int .i64 x,.int .i64 y]) l i).run P w=.ok (some (i+j,m.val)) w∧l[j]? = some m∧m.key=.agg #[.int .i64 x,.int .i64 y]∧Kh S w p m.val∧Nm p=true
 | [],l,i,r,ha,h=>by
  rw [ha.nil_left]
  simp only [Jc6] at h; cases h
  exact .inl ⟨rfl,by simp [Instr.findAsking]⟩
 | e::es,l,i,r,ha,h=>by
  obtain ⟨m,l',rfl,h1,h2⟩:=ha.cons_left
  simp only [Jc6] at h
  split at h
  ·rename_i hq
   cases h
   obtain ⟨h3,h4⟩:=Jge hu hp hq h1.1
   exact .inr ⟨0,m,e.2,rfl,by simp [Instr.findAsking,h3],rfl,h4 rfl,h1.2.1,h1.2.2⟩
  ·rename_i hq
   obtain ⟨h3,_⟩:=Jge hu hp hq h1.1
   rcases Jbl hu hp (i+1) h2 h with ⟨h4,h5⟩|⟨j,m',p,h4,h5,h6,h7⟩
   ·exact .inl ⟨h4,by simp [Instr.findAsking,h3,h5]⟩
   ·exact .inr ⟨j+1,m',p,h4,by simp [Instr.findAsking,h3,h5]; omega,by simpa using h6,h7⟩
  ·cases h
theorem Xm {kt:TypeId} {fs:Array Field} (hu:P.underlying kt=some (.struct fs)) (v:Value) (l:List MapEntry):(Instr.findKey kt v l).run P w=(Instr.findAsking kt v l 0).run P w:=by
 cases l with
 | nil=>simp [Instr.findKey,run_underlying hu,Instr.findNow,Instr.findAsking]
 | cons m l=>simp [Instr.findKey,run_underlying hu,Instr.findNow,Instr.sameNow]
/-- What the search for a key does. -/
theorem Jtk {S:Qj} {kt:TypeId} {d:TypeDesc} {k:PV} {kv:Value} {es:List (PV×PV)} {l:List MapEntry} {r:Option PV} (hu:P.underlying kt=some d) (ht:Jhi P kt d=true) (hd:Cx d k=true) (hk:Kh S w k kv) (ha:Kv (Jf0 S w) es l) (h:Jc6 k es=some r) :
  (r=none∧(Instr.findKey kt kv l).run P w=.ok none w)∨∃ j m p,r=some p∧(Instr.findKey kt kv l).run P w=.ok (some (j,m.val)) w∧l[j]? = some m∧m.key=kv∧Kh S w p m.val∧Nm p=true:=by
 by_cases hs:∃ fs,d=.struct fs
 ·obtain ⟨fs,rfl⟩:=hs
  obtain ⟨x,y,rfl⟩:=Dk hd
  rw [Jdt] at hk
  subst hk
  rw [Xm hu]
  rcases Jbl hu ht 0 ha h with h1|⟨j,m,p,h1,h2,h3⟩
  ·exact .inl h1
  ·exact .inr ⟨j,m,p,h1,by simpa using h2,h3⟩
 ·have hs:∀ fs,d≠.struct fs:=fun fs e=>hs ⟨fs,e⟩
  rcases Jku hs hd hk 0 ha h with ⟨h1,h2⟩|⟨j,m,p,h1,h2,h3⟩
  ·exact .inl ⟨h1,MapKept.run_findKey hu h2⟩
  ·exact .inr ⟨j,m,p,h1,MapKept.run_findKey hu (by simpa using h2),h3⟩
theorem Gy {S:Qj} {kt:TypeId} {d:TypeDesc} {k:PV} {kv:Value} (hu:P.underlying kt=some d) (ht:Jhi P kt d=true) (hd:Cx d k=true) (hk:Kh S w k kv) (e:Bool):(Instr.checkKey e 10000 kt kv).run P w=.ok () w:=by
 by_cases hs:∃ fs,d=.struct fs
 ·obtain ⟨fs,rfl⟩:=hs
  obtain ⟨x,y,rfl⟩:=Dk hd
  rw [Jdt] at hk
  subst hk
  exact Jgv hu ht e 9998 x y
 ·exact MapKept.run_checkKey hu (Jry (fun fs e=>hs ⟨fs,e⟩) hd hk) e 9999
theorem Jgf {S:Qj} {d:TypeDesc} {k:PV} {kv:Value} (hd:Cx d k=true) (hk:Kh S w k kv):(Instr.keyThatStays kv kv).run P w=.ok kv w:=by
 by_cases hs:∃ fs,d=.struct fs
 ·obtain ⟨fs,rfl⟩:=hs
  obtain ⟨x,y,rfl⟩:=Dk hd
  rw [Jdt] at hk
  subst hk
  simp [Instr.keyThatStays,Instr.sameBits]
 ·exact MapKept.run_keyThatStays (Jry (fun fs e=>hs ⟨fs,e⟩) hd hk)
theorem Xu {t:TypeId} {mv:Value} {arr:Array MapEntry} {es:List (PV×PV)} {k r:PV} {kv:Value} {ok:Bool} (hb:(mv=.map none∧arr=#[])∨∃ B clock,mv=.map (some B)∧g.w.heap[B]? = some (.map arr clock)) (he:Kv (Jf0 g.S g.w) es arr.toList) (hk:Rel g k kv)
  (h:Hf P t es k ok=some r):∃ z,(Instr.lookup t mv kv ok).run P g.w=.ok z g.w∧Rel g r z:=by
 unfold Hf at h
 split at h
 ·rename_i d z hm
  obtain ⟨kt,et,m1,m2,m3,m4,m5⟩:=Ot hm
  split at h
  ·rename_i hd
   obtain ⟨x,hx,rfl⟩:=Option.map_eq_some_iff.1 h
   have hkd:Kh g.S g.w k kv:=by
    revert hk hd
    cases k <;> intro hk hd <;> first|exact hk|(cases d <;> simp [Cx] at hd; done)|skip
    cases d <;> simp only [Cx] at hd <;> try cases hd
    obtain ⟨x,y,e⟩:=Dk hd
    rw [e] at hk ⊢
    exact Jdh hk
   obtain ⟨iz,zv,z1,z2,z0⟩:=Jmw (g:=g) m3
   have z3:Qb g z zv:=by
    revert z0 m4
    cases z <;> intro m4 z0 <;> first|exact z0|(simp [Nm] at m4)
   have z3:=Jvk (P:=P) (t:=t) z3
   have hc:=Gy (P:=P) (w:=g.w) m2 m5 hd hkd arr.isEmpty
   rcases Jtk (P:=P) m2 m5 hd hkd he hx with ⟨rfl,hf⟩|⟨j,m,p,rfl,hf,_,_,h5,h6⟩
   ·refine ⟨if ok then .tuple #[zv,.bool false] else zv, ?_, ?_⟩
    ·rcases hb with ⟨rfl,rfl⟩|⟨B,clock,rfl,hb⟩
     ·simp at hc hf; simp [Instr.lookup,run_underlying m1,hc,hf,zeroValue,typeInfo,z1,z2]
     ·simp [Instr.lookup,run_underlying m1,MapKept.run_getObj_map hb,hc,hf,zeroValue,typeInfo,z1,z2]
    ·cases ok
     ·exact z3.rel
     ·simp only [if_true,Rel,Option.getD_none,Option.isSome_none]
      exact ⟨_,rfl,.cons z3 (.cons (by simp [Qb,Kx,Kh]) .nil)⟩
   ·refine ⟨if ok then .tuple #[m.val,.bool true] else m.val, ?_, ?_⟩
    ·rcases hb with ⟨rfl,rfl⟩|⟨B,clock,rfl,hb⟩
     ·simp at hc hf; simp [Instr.lookup,run_underlying m1,hc,hf]
     ·simp [Instr.lookup,run_underlying m1,MapKept.run_getObj_map hb,hc,hf]
    ·have h7:Qb g p m.val:=Rel.ofFlat h5 h6
     cases ok
     ·exact h7.rel
     ·simp only [if_true,Rel,Option.getD_some,Option.isSome_some]
      exact ⟨_,rfl,.cons h7 (.cons (by simp [Qb,Kx,Kh]) .nil)⟩
  ·cases h
 ·cases h
theorem Jm6 {S:Qj} {d:TypeDesc} {k v:PV} {kv:Value} (hs:∀ fs,d≠.struct fs) (hd:Cx d k=true) (hk:Kh S w k kv):∀ {es es':List (PV×PV)} {l:List MapEntry} (i:Nat),Kv (Jf0 S w) es l→Jbw k v es=some es' →
  (es'=es++[(k,v)]∧Instr.findNow d kv l i=some none)∨∃ j m,Instr.findNow d kv l i=some (some (i+j,m.val))∧l[j]? = some m∧m.key=kv∧es'=es.set j (k,v)
 | [],es',l,i,ha,h=>by
  rw [ha.nil_left]
  simp only [Jbw] at h; cases h
  exact .inl ⟨rfl,rfl⟩
 | e::es,es',l,i,ha,h=>by
  obtain ⟨m,l',rfl,h1,h2⟩:=ha.cons_left
  simp only [Jbw] at h
  split at h
  ·rename_i hq
   cases h
   obtain ⟨h3,h4⟩:=Jau hs hd hk h1.1 hq
   exact .inr ⟨0,m,by simp [Instr.findNow,h3],rfl,h4 rfl,rfl⟩
  ·rename_i hq
   obtain ⟨h3,_⟩:=Jau hs hd hk h1.1 hq
   obtain ⟨es1,hp,rfl⟩:=Option.map_eq_some_iff.1 h
   rcases Jm6 hs hd hk (i+1) h2 hp with ⟨rfl,h5⟩|⟨j,m',h5,h6,h7,rfl⟩
   ·exact .inl ⟨rfl,by simp [Instr.findNow,h3,h5]⟩
   ·exact .inr ⟨j+1,m',by simp [Instr.findNow,h3,h5]; omega,by simpa using h6,h7,rfl⟩
  ·cases h
theorem Jbn {S:Qj} {kt:TypeId} {fs:Array Field} (hu:P.underlying kt=some (.struct fs)) (hp:Jii P kt=true) {x y:Int} {v:PV}:∀ {es es':List (PV×PV)} {l:List MapEntry} (i:Nat),Kv (Jf0 S w) es l→Jbw (.agg [.int .i64 x,.int .i64 y]) v es=some es' →
  (es'=es++[(.agg [.int .i64 x,.int .i64 y],v)]∧(Instr.findAsking kt (.agg #[.int .i64 x,.int .i64 y]) l i).run P w=.ok none w)∨∃ j m,(Instr.findAsking kt (.agg #[.int .i64 x,.int .i64 y]) l i).run P w=.ok (some (i+j,m.val)) w∧l[j]? = some m∧m.key=.agg #[.int .i64 x,.int .i64 y]∧es'=es.set j (.agg [.int .i64 x,.int .i64 y],v)
 | [],es',l,i,ha,h=>by
  rw [ha.nil_left]
  simp only [Jbw] at h; cases h
  exact .inl ⟨rfl,by simp [Instr.findAsking]⟩
 | e::es,es',l,i,ha,h=>by
  obtain ⟨m,l',rfl,h1,h2⟩:=ha.cons_left
  simp only [Jbw] at h
  split at h
  ·rename_i hq
   cases h
   obtain ⟨h3,h4⟩:=Jge hu hp hq h1.1
   exact .inr ⟨0,m,by simp [Instr.findAsking,h3],rfl,h4 rfl,rfl⟩
  ·rename_i hq
   obtain ⟨h3,_⟩:=Jge hu hp hq h1.1
   obtain ⟨es2,hp2,rfl⟩:=Option.map_eq_some_iff.1 h
   rcases Jbn hu hp (i+1) h2 hp2 with ⟨rfl,h5⟩|⟨j,m',h5,h6,h7,rfl⟩
   ·exact .inl ⟨rfl,by simp [Instr.findAsking,h3,h5]⟩
   ·exact .inr ⟨j+1,m',by simp [Instr.findAsking,h3,h5]; omega,by simpa using h6,h7,rfl⟩
  ·cases h
theorem Jlr {S:Qj} {kt:TypeId} {d:TypeDesc} {k v:PV} {kv:Value} {es es':List (PV×PV)} {l:List MapEntry} (hu:P.underlying kt=some d) (ht:Jhi P kt d=true) (hd:Cx d k=true) (hk:Kh S w k kv) (ha:Kv (Jf0 S w) es l) (h:Jbw k v es=some es') :
  (es'=es++[(k,v)]∧(Instr.findKey kt kv l).run P w=.ok none w)∨∃ j m,(Instr.findKey kt kv l).run P w=.ok (some (j,m.val)) w∧l[j]? = some m∧m.key=kv∧es'=es.set j (k,v):=by
 by_cases hs:∃ fs,d=.struct fs
 ·obtain ⟨fs,rfl⟩:=hs
  obtain ⟨x,y,rfl⟩:=Dk hd
  rw [Jdt] at hk
  subst hk
  rw [Xm hu]
  rcases Jbn hu ht 0 ha h with h1|⟨j,m,h1,h2⟩
  ·exact .inl h1
  ·exact .inr ⟨j,m,by simpa using h1,h2⟩
 ·have hs:∀ fs,d≠.struct fs:=fun fs e=>hs ⟨fs,e⟩
  rcases Jm6 hs hd hk 0 ha h with ⟨h1,h2⟩|⟨j,m,h1,h2⟩
  ·exact .inl ⟨h1,MapKept.run_findKey hu h2⟩
  ·exact .inr ⟨j,m,MapKept.run_findKey hu (by simpa using h1),h2⟩
theorem Jly {k:PV} (kk b:Nat):∀ {es:List (PV×List (List PV))} {r:Option (Nat×List (List PV))},Jf3 k es=some r →
  Jbw k .any (Jld kk b es)=some (match r with|some (i,_)=>(Jld kk b es).set i (k,.any)|none=>Jld kk b es++[(k,.any)])∧∀ i xss,r=some (i,xss)→∃ key,es[i]? = some (key,xss)
 | [],r,h=>by
  simp only [Jf3] at h; cases h
  exact ⟨rfl,fun _ _ e=>by cases e⟩
 | e::es,r,h=>by
  simp only [Jf3] at h
  split at h
  ·rename_i hq
   cases h
   refine ⟨by simp [Jld,Jbw,hq],fun i xss e1=>?_⟩
   cases e1; exact ⟨e.1,rfl⟩
  ·rename_i hq
   obtain ⟨r',h1,rfl⟩:=Option.map_eq_some_iff.1 h
   obtain ⟨i1,i2⟩:=Jly kk b h1
   unfold Jld at i1 ⊢
   refine ⟨?_,fun i xss e1=>?_⟩
   ·simp only [List.map_cons,Jbw,hq,i1,Option.map_some]
    cases r' <;> simp
   ·cases r' with
    | none=>cases e1
    | some y =>
     obtain ⟨y1,y2⟩:=y
     simp only [Option.map_some,Option.some.injEq,Prod.mk.injEq] at e1
     obtain ⟨rfl,rfl⟩:=e1
     obtain ⟨key,hk⟩:=i2 y1 y2 rfl
     exact ⟨key,by simpa using hk⟩
  ·cases h
/-- The place in memory where a key is, in such a map. -/
theorem Jmz {kt:TypeId} {d:TypeDesc} {k:PV} {kv:Value} {kk b:Nat} {tk:Nat→Nat} {es:List (PV×List (List PV))} {arr:Array MapEntry} {r:Option (Nat×List (List PV))} (hu:P.underlying kt=some d) (ht:Jhi P kt d=true) (hd:Cx d k=true) (hk:Kh g.S g.w k kv)
  (hsz:arr.size=es.length) (hE:∀ (i:Nat) (e:PV×List (List PV)) (m:MapEntry),es[i]? = some e→arr[i]? = some m→Kh g.S g.w e.1 m.key∧Kx g (.lst (.own (tk i)) kk b e.2) m.val) (h:Jf3 k es=some r) :
  (r=none∧(Instr.findKey kt kv arr.toList).run P g.w=.ok none g.w)∨∃ i xss m key,r=some (i,xss)∧es[i]? = some (key,xss)∧(Instr.findKey kt kv arr.toList).run P g.w=.ok (some (i,m.val)) g.w∧arr[i]? = some m∧m.key=kv:=by
 have hA:Kv (Jf0 g.S g.w) (Jld kk b es) arr.toList:=⟨by simp [Jld,hsz],fun i p m hp hm=>by
  simp only [Jld,List.getElem?_map] at hp
  obtain ⟨e,he,rfl⟩:=Option.map_eq_some_iff.1 hp
  obtain ⟨q1,q2⟩:=hE i e m he (by simpa using hm)
  exact ⟨q1,q2.1,rfl⟩⟩
 obtain ⟨i1,i2⟩:=Jly kk b h
 have hlen:(Jld kk b es).length=es.length:=by simp [Jld]
 rcases Jlr (P:=P) hu ht hd hk hA i1 with ⟨e1,hf⟩|⟨j,m,hf,h3,h4,e1⟩
 ·refine .inl ⟨?_,hf⟩
  cases r with
  | none=>rfl
  | some y =>
   exfalso
   have:=congrArg List.length e1
   simp at this
 ·cases r with
  | none =>
   exfalso
   have:=congrArg List.length e1
   simp at this
  | some y =>
   obtain ⟨i,xss⟩:=y
   obtain ⟨key,hkey⟩:=i2 i xss rfl
   have hil:i<(Jld kk b es).length:=by rw [hlen]; exact (List.getElem?_eq_some_iff.1 hkey).1
   have hij:i=j:=by
    by_cases hij:i=j
    ·exact hij
    ·exfalso
     have h5:=congrArg (fun l:List (PV×PV)=>l[i]?) e1
     simp only [List.getElem?_set,if_true,hil] at h5
     rw [if_neg (fun e=>hij e.symm)] at h5
     have hm:i<arr.toList.length:=by rw [← hA.1]; exact hil
     have h6:=(hA.2 i _ arr.toList[i] h5.symm (List.getElem?_eq_getElem hm)).2.2
     simp [Nm] at h6
   subst hij
   exact .inr ⟨i,xss,m,key,rfl,hkey,hf,by simpa using h3,h4⟩
theorem Jmh {t:TypeId} {B:Nat} {clock:Nat} {arr:Array MapEntry} {es:List (PV×List (List PV))} {kk b:Nat} {tk:Nat→Nat} {k r:PV} {kv:Value} {ok:Bool} (hb:g.w.heap[B]? = some (.map arr clock))
  (hsz:arr.size=es.length) (hE:∀ (i:Nat) (e:PV×List (List PV)) (m:MapEntry),es[i]? = some e→arr[i]? = some m→Kh g.S g.w e.1 m.key∧Kx g (.lst (.own (tk i)) kk b e.2) m.val) (hk:Rel g k kv)
  (h:Oj P t es kk b tk k ok=some r):∃ z,(Instr.lookup t (.map (some B)) kv ok).run P g.w=.ok z g.w∧Rel g r z:=by
 unfold Oj at h
 split at h
 ·rename_i d hm
  obtain ⟨kt,et,m1,m2,m3,m4,m5⟩:=Ot hm
  split at h
  ·rename_i hd
   obtain ⟨x,hx,rfl⟩:=Option.map_eq_some_iff.1 h
   have hkd:Kh g.S g.w k kv:=by
    revert hk hd
    cases k <;> intro hk hd <;> first|exact hk|(cases d <;> simp [Cx] at hd; done)|skip
    cases d <;> simp only [Cx] at hd <;> try cases hd
    obtain ⟨x,y,e⟩:=Dk hd
    rw [e] at hk ⊢
    exact Jdh hk
   obtain ⟨iz,zv,z1,z2,z0⟩:=Jmw (g:=g) m3
   have hc:=Gy (P:=P) (w:=g.w) m2 m5 hd hkd arr.isEmpty
   rcases Jmz m2 m5 hd hkd hsz hE hx with ⟨rfl,hf⟩|⟨i,xss,m,key,rfl,hkey,hf,hm2,hmk⟩
   ·exact ⟨zv,by simp [Instr.lookup,run_underlying m1,MapKept.run_getObj_map hb,hc,hf,zeroValue,typeInfo,z1,z2],z0⟩
   ·exact ⟨m.val,by simp [Instr.lookup,run_underlying m1,MapKept.run_getObj_map hb,hc,hf],(hE i _ m hkey hm2).2⟩
  ·cases h
 ·cases h
/-- What such an operation does. -/
theorem Jw1 (h:Kw Gl S0 w0 s a g) (o:Oper) {r:PV} (he:ev1 P Gl o.op s.ev s.H s.X=some r) :
  ∃ z,(execOp a.eval o).run P g.w=.ok (.value z) g.w∧Rel g r z:=by
 have key:∀ (m:Sem Value),(∃ z,m.run P g.w=.ok z g.w∧Rel g r z)→∃ z,(do pure (Next.value (← m)):Sem Next).run P g.w=.ok (.value z) g.w∧Rel g r z:=by
  rintro m ⟨z,h1,h2⟩
  exact ⟨z,by simp [h1],h2⟩
 unfold ev1 at he
 unfold execOp
 split at he
 ·rename_i x hop; rw [hop]; cases he; exact ⟨_,rfl,h.ev x⟩
 ·rename_i x hop; rw [hop]; cases he; exact ⟨_,rfl,h.ev x⟩
 ·rename_i c x y hop
  rw [hop]
  have hc:=h.ev c
  split at he
  ·rename_i b hb
   rw [hb,Vx] at hc
   cases he
   refine ⟨if b then a.eval x else a.eval y,by simp [hc,asBool], ?_⟩
   cases b
   ·exact h.ev y
   ·exact h.ev x
  ·cases he
 ·rename_i x hop
  rw [hop]
  have hx:=h.ev x
  split at he
  ·rename_i l o hl
   rw [hl] at hx; cases he
   have hx':=hx
   rw [Fq] at hx
   exact ⟨a.eval x,by simp [hx.1],hx'⟩
  ·rename_i cs hl
   rw [hl] at hx; cases he
   have hx':=hx
   rw [Hq] at hx
   obtain ⟨B,o,e,_⟩:=hx
   exact ⟨a.eval x,by simp [e],hx'⟩
  ·rename_i i o hl
   rw [hl] at hx; cases he
   have hx':=hx
   rw [Lo] at hx
   exact ⟨a.eval x,by simp [hx],hx'⟩
  ·rename_i f caps hl
   rw [hl] at hx; cases he
   have hx':=hx
   simp only [Rel,Qb,Kx] at hx
   obtain ⟨arr,e,_⟩:=hx
   exact ⟨a.eval x,by simp [e],hx'⟩
  ·rename_i t k N j o hl
   rw [hl] at hx; cases he
   have hx':=hx
   simp only [Rel,Qb,Kx] at hx
   obtain ⟨⟨B,o',e⟩,_⟩:=hx
   exact ⟨a.eval x,by simp [e],hx'⟩
  ·cases he
 ·rename_i op t x y yt hop
  rw [hop]
  exact key _ (Jsy he (h.ev x) (h.ev y))
 ·rename_i op t x hop; rw [hop]; exact key _ (Juq he (h.ev x))
 ·rename_i src dst x hop; rw [hop]; exact key _ (Jq7 he (h.ev x))
 ·rename_i t x f hop; rw [hop]; exact key _ (Jjl he (h.ev x) rfl)
 ·rename_i t x f hop; rw [hop]; exact key _ (Jo6 he (h.ev x))
 ·rename_i t x i hop; rw [hop]; exact key _ (Jji he (h.ev x) (h.ev i) rfl)
 ·rename_i t x i hop; rw [hop]; exact key _ (Jpr he (h.ev x) (h.ev i))
 ·rename_i t x hop; rw [hop]; exact key _ (Jl1 h he (h.ev x))
 ·rename_i x i hop
  rw [hop]
  have hx:=h.ev x
  split at he
  ·rename_i vs hvs
   rw [hvs] at hx
   simp only [Rel] at hx
   obtain ⟨arr,e,hr⟩:=hx
   obtain ⟨z,hz1,hz2⟩:=hr.right he
   refine key _ ⟨z,by rw [e]; simp only [Instr.extract]; rw [show arr[i]? = some z by simpa using hz1]; rfl, ?_⟩
   cases r
   case tup vs=>exact hz2.elim
   all_goals exact hz2
  ·cases he
 ·rename_i t x lo hi mx hop
  rw [hop]
  exact key _ (Jqc he (h.ev x) rfl (Jk6 h lo) (Jk6 h hi) (Jk6 h mx))
 ·rename_i t parts hop
  rw [hop]
  refine key _ (Jqn he ⟨by simp,fun i x y hx hy=>?_⟩)
  simp only [List.getElem?_map,Array.toList_map] at hx hy
  cases hp:parts.toList[i]? with
  | none=>rw [hp] at hx; cases hx
  | some q =>
   rw [hp] at hx hy
   cases hx; cases hy
   exact ⟨rfl,h.ev q.2⟩
 ·rename_i t x k ok hop
  rw [hop]
  have hx:=h.ev x
  split at he
  ·rename_i l hl
   rw [hl] at hx
   split at he
   ·rename_i es hes
    obtain ⟨_,_,_,arr,clock,o1,o2⟩:=h.objs l _ (by rw [h.hH]; exact hes)
    have hx1:a.eval x=.map (some (g.φ l)):=hx.1
    have hr:=Xu (P:=P) (.inr ⟨_,_,hx1,o1⟩) o2 (h.ev k) he
    exact key _ hr
   ·rename_i es k' b tk hes
    obtain ⟨_,_,_,_,arr,clock,o1,o2,o3⟩:=h.objs l _ (by rw [h.hH]; exact hes)
    have hx1:a.eval x=.map (some (g.φ l)):=hx.1
    have hr:=Jmh (P:=P) o1 o2 o3 (h.ev k) he
    rw [← hx1] at hr
    exact key _ hr
   ·cases he
  ·rename_i ks vs hl
   rw [hl] at hx
   have hx:Kh g.S g.w (.fmp ks vs) (a.eval x):=hx
   simp only [Kh] at hx
   obtain ⟨hfl,⟨e1,rfl,rfl⟩|⟨B,arr,clock,e1,e2,e3,e4,e5⟩⟩:=hx
   ·exact key _ (Xu (P:=P) (arr:=#[]) (.inl ⟨e1,rfl⟩) .nil (h.ev k) he)
   ·refine key _ (Xu (P:=P) (arr:=arr) (.inr ⟨B,clock,e1,e3⟩) ?_ (h.ev k) he)
    have e4:=(Vr _ _).1 e4
    have e5:=(Vr _ _).1 e5
    refine ⟨by rw [List.length_zip,e4.1,e5.1]; simp,fun i p m hp hm=>?_⟩
    rw [List.getElem?_zip_eq_some] at hp
    exact ⟨e4.2 i p.1 m.key hp.1 (by rw [List.getElem?_map,hm]; rfl),e5.2 i p.2 m.val hp.2 (by rw [List.getElem?_map,hm]; rfl),List.all_eq_true.1 hfl _ (List.mem_of_getElem? hp.2)⟩
  ·cases he
 ·rename_i f first caps hop
  rw [hop]
  split at he
  ·rename_i hc
   obtain ⟨h1,h2⟩:=hc
   cases he
   rw [Jrk h1]
   refine key _ ⟨_,rfl, ?_⟩
   simp only [Rel,Qb,Kx]
   refine ⟨caps.map a.eval,by simp,by simp,fun i x y hx hy=>?_⟩
   simp only [List.getElem?_map,Array.toList_map] at hx hy
   cases hp:caps.toList[i]? with
   | none=>rw [hp] at hx; cases hx
   | some q =>
    rw [hp] at hx hy
    cases hx; cases hy
    have hcap:Bh (s.ev q)=true:=List.all_eq_true.1 h2 _ (List.mem_map.2 ⟨q,List.mem_of_getElem? hp,rfl⟩)
    have hq:=h.ev q
    cases he:s.ev q <;> rw [he] at hq hcap <;> simp only [Bh] at hcap <;> try cases hcap
    all_goals exact hq
  ·cases he
 ·rename_i c hop
  rw [hop]
  split at he
  ·rename_i x t h1 h2 h3
   have ha:=Lb h2
   have hb:=Lb h3
   have hr:=Jto h (ty:=o.type) he (h.ev x)
   obtain ⟨z,hz1,hz2⟩:=hr
   exact ⟨z,by simp [resolve,h1,ha,hb,invoke,builtin,hz1],hz2⟩
  ·rename_i x y h1 h2
   obtain ⟨z,hz1,hz2⟩:=Jw6 (P:=P) (w:=g.w) (ts:=c.argTypes) (ty:=o.type) he (h.ev x) (h.ev y)
   exact ⟨z,by simp [resolve,h1,Ld h2,invoke,builtin,hz1],hz2⟩
  ·rename_i x y h1 h2
   obtain ⟨z,hz1,hz2⟩:=Jwd (P:=P) (w:=g.w) (ts:=c.argTypes) (ty:=o.type) he (h.ev x) (h.ev y)
   exact ⟨z,by simp [resolve,h1,Ld h2,invoke,builtin,hz1],hz2⟩
  ·cases he
 ·cases he
end
end PM
/-
 THE PURE MACHINE, I: operations that make or write memory of the call's own.
-/
namespace PM
open Go Go.RowKit
/-! ### Data -/
def Jsc : PV→Bool
 | .ref _ _=>false
 | _=>true
def Zj : PV→Option PV
 | .lst (.own _) k b xss=>some (.lst .frozen k b xss)
 | .lst .full k b xss=>some (.lst .frozen k b xss)
 | .lst .frozen k b xss=>some (.lst .frozen k b xss)
 | .int k n=>some (.int k n)
 | .bool b=>some (.bool b)
 | .str s=>some (.str s)
 | .nil=>some .nil
 | .cptr cs=>some (.cptr cs)
 | .gptr i o=>some (.gptr i o)
 | .fmp ks vs=>some (.fmp ks vs)
 | .fn f caps=>if caps.all Jsc=true then some (.fn f caps) else none
 | _=>none
def Ct : List PV→Option (List PV)
 | []=>some []
 | p::ps=>match Zj p,Ct ps with
  | some a,some b=>some (a::b)
  | _,_=>none
def Fj : PV→Option PV
 | .agg cs=>(Ct cs).map .agg
 | p=>Zj p
def Hm : List PV→Option (List PV)
 | []=>some []
 | p::ps=>match Fj p,Hm ps with
  | some a,some b=>some (a::b)
  | _,_=>none
section
variable {P:Program} {Gl:Nat→Option (List PV)} {S0:Bs} {w0:World} {s:PSt} {a:Act} {g:GG} {w:World}
theorem Mj {p q:PV} {v:Value} (h:Kx g p v) (hd:Zj p=some q):Kh g.S g.w q v∧q.one=true:=by
 cases p
 case lst o k b xss =>
  cases o <;> simp only [Zj] at hd <;> cases hd
  ·exact ⟨h,rfl⟩
  ·exact ⟨Kh.unfull h,rfl⟩
  ·exact ⟨h.1,rfl⟩
 case fn f caps =>
  simp only [Zj] at hd
  split at hd
  ·rename_i hc
   cases hd
   simp only [Kx] at h
   obtain ⟨arr,e,hr⟩:=h
   refine ⟨?_,rfl⟩
   simp only [Kh]
   refine ⟨arr,e,(Vr _ _).2 ⟨hr.1,fun i x y hx hy=>?_⟩⟩
   have h0:=hr.2 i x y hx hy
   have h1:=List.all_eq_true.1 hc x (List.mem_of_getElem? hx)
   cases x <;> simp only [Px,Jsc] at h0 h1 <;> first|exact h0|cases h1
  ·cases hd
 all_goals (simp only [Zj] at hd; cases hd)
 all_goals exact ⟨h,rfl⟩
theorem Cz : ∀ {cs ds:List PV} {vs:List Value},Kv (Wk g) cs vs→Ct cs=some ds→Kv (fun p v=>Kh g.S g.w p v∧p.one=true∧v.oneCell'=true) ds vs
 | [],ds,vs,h,hd=>by
  simp only [Ct] at hd; cases hd
  rw [h.nil_left]; exact .nil
 | c::cs,ds,vs,h,hd=>by
  simp only [Ct] at hd
  split at hd
  ·rename_i x y h1 h2
   cases hd
   obtain ⟨v,vs',rfl,hv,hvs⟩:=h.cons_left
   obtain ⟨e1,e2⟩:=Mj hv.1 h1
   exact .cons ⟨e1,e2,hv.2⟩ (Cz hvs h2)
  ·cases hd
theorem Eu : ∀ {cs ds:List PV},Ct cs=some ds→ds.length=cs.length
 | [],ds,hd=>by simp only [Ct] at hd; cases hd; rfl
 | c::cs,ds,hd=>by
  simp only [Ct] at hd
  split at hd
  ·rename_i x y h1 h2
   cases hd
   simp [Eu h2]
  ·cases hd
theorem Jde {p q:PV} {v:Value} (h:Qb g p v) (hd:Fj p=some q):Kh g.S g.w q v:=by
 cases p
 case agg cs =>
  simp only [Fj] at hd
  obtain ⟨ds,h1,rfl⟩:=Option.map_eq_some_iff.1 hd
  simp only [Qb] at h
  obtain ⟨arr,e,hr⟩:=h
  simp only [Kh]
  exact ⟨arr,e,(Vr _ _).2 ((Cz hr h1).mono fun _ _ h=>h.1)⟩
 all_goals (simp only [Qb] at h; simp only [Fj] at hd; exact (Mj h hd).1)
theorem Rel.relA {p q:PV} {v:Value} (h:Rel g p v) (hd:Fj p=some q):Qb g p v:=by
 cases p <;> first|exact h|(simp [Fj,Zj] at hd)
theorem Dl : ∀ {ps qs:List PV} {vs:List Value},Kv (Rel g) ps vs→Hm ps=some qs→Kv (Kh g.S g.w) qs vs
 | [],qs,vs,h,hd=>by
  simp only [Hm] at hd; cases hd
  rw [h.nil_left]; exact .nil
 | c::cs,ds,vs,h,hd=>by
  simp only [Hm] at hd
  split at hd
  ·rename_i x y h1 h2
   cases hd
   obtain ⟨v,vs',rfl,hv,hvs⟩:=h.cons_left
   exact .cons (Jde (hv.relA h1) h1) (Dl hvs h2)
  ·cases hd
/-! ### A new block -/
theorem Gb (w:World) (o:Obj):Hk w.heap.size w (w.alloc o):=⟨(Below.refl _ _).alloc (Nat.le_refl _) o,Nat.le_refl _⟩
theorem Ef (w:World) (arr:Array Value) (t:TypeId):(w.alloc (.cells arr t)).rangeAt w.heap.size 0 arr.toList:=fun j v hv=>by
 rw [Nat.zero_add,World.cell?_alloc_new]
 simpa using hv
theorem Ml (w:World) (arr:Array Value) (t:TypeId):(w.alloc (.cells arr t)).there w.heap.size 0 arr.size:=fun j hj=>by
 rw [Nat.zero_add,World.cell?_alloc_new,World.frozen?_alloc_new]
 exact ⟨by simp [hj],rfl⟩
theorem Kw.spare_lt (h:Kw Gl S0 w0 s a g) (t:Nat) (hs:Vp g t g.w.heap.size):False:=by
 have:=hs.lt h; omega
theorem Kw.xb_lt (h:Kw Gl S0 w0 s a g) (t:Nat) (hs:XB s.X g t g.w.heap.size):False:=by
 have:=(hs.lt h).1; omega
theorem Kw.phi_lt (h:Kw Gl S0 w0 s a g) (l:Nat) (hl:(g.H l).isSome=true):g.φ l≠g.w.heap.size:=by
 obtain ⟨ob,hob⟩:=Option.isSome_iff_exists.1 hl
 have:=(h.objs l ob hob).2.1
 omega
/-- A variable of the call's own is made. -/
theorem Kw.newVar (h:Kw Gl S0 w0 s a g) {l:Nat} {cs:List PV} {arr:Array Value} (t:TypeId) (hl:g.H l=none) (hl6:l<1000000) (hc:Kv (Wk g) cs arr.toList) :
  ∃ g',g'.w=g.w.alloc (.cells arr t)∧Kw Gl S0 w0 { s with H:=upd s.H l (some (.cells cs)) } a g'∧GLe g g'∧g'.φ l=g.w.heap.size∧(g'.H l).isSome=true∧g'.H=upd g.H l (some (.cells cs)):=by
 obtain ⟨h1,e1⟩:=h.grow' (Gb g.w (.cells arr t))
 have hz:=h.below.size
 obtain ⟨h2,e2⟩:=h1.addObj (l:=l) (B:=g.w.heap.size) (ob:=.cells cs) hl hl6 (.inl (by omega)) (by show g.w.heap.size<(g.w.alloc _).heap.size; simp) (fun o ho=>by have:=h.lt _ _ ho; omega)
  (fun l' hl'=>h.phi_lt l' hl') (fun t ht=>h.spare_lt t (ht.congr rfl rfl)) (fun t ht=>h.xb_lt t (ht.congr rfl)) (fun g' hg' hw'=>⟨arr.toList,hc.mono fun x y hxy=>(hxy.mono e1).mono hg',by rw [hw']; exact Ef _ _ _,by rw [hw']; simpa using Ml g.w arr t⟩)
 refine ⟨_,rfl,h2,⟨fun B o hB=>e2.S B o (e1.S B o hB),fun B o hB=>(e2.cell B o (e1.S B o hB)).trans (e1.cell B o hB),fun B hB=>(e2.blk B fun o=>e1.S B o (hB o)).trans (e1.blk B hB), ?_, ?_⟩,by simp,by simp [upd],rfl⟩
 ·intro l' ob hob
  have hne:l'≠l:=fun e=>by rw [e,hl] at hob; cases hob
  exact ⟨by simp [hne],ob,by simpa [upd,hne] using hob,fun cs e=>⟨cs,e,rfl⟩⟩
 ·intro t n k ht
  exact ⟨n,ht,Nat.le_refl _,fun _=>rfl⟩
theorem GLe.trans {g1 g2 g3:GG} (h:GLe g1 g2) (h':GLe g2 g3):GLe g1 g3:=by
 refine ⟨fun B o hB=>h'.S B o (h.S B o hB),fun B o hB=>(h'.cell B o (h.S B o hB)).trans (h.cell B o hB),fun B hB=>(h'.blk B fun o=>h.S B o (hB o)).trans (h.blk B hB),fun l ob hob=>?_,fun t n k ht=>?_⟩
 ·obtain ⟨e1,ob1,e2,e3⟩:=h.obj l ob hob
  obtain ⟨f1,ob2,f2,f3⟩:=h'.obj l ob1 e2
  refine ⟨f1.trans e1,ob2,f2,fun cs e=>?_⟩
  obtain ⟨cs1,q1,q2⟩:=e3 cs e
  obtain ⟨cs2,r1,r2⟩:=f3 cs1 q1
  exact ⟨cs2,r1,by omega⟩
 ·obtain ⟨n1,e1,e2,e3⟩:=h.tok t n k ht
  obtain ⟨n2,f1,f2,f3⟩:=h'.tok t n1 k e1
  exact ⟨n2,f1,by omega,fun e=>by rw [f3 (by omega),e3 (by omega)]⟩
/-- A row of data is laid into a new block, whose first cells are stable from now on. -/
theorem Kw.newRow (h:Kw Gl S0 w0 s a g) (arr:Array Value) (t:TypeId) (m:Nat) :
  Kw Gl S0 w0 s a { g with w:=g.w.alloc (.cells arr t),S:=fun b o=>g.S b o∨(b=g.w.heap.size∧o<m) }∧GLe g { g with w:=g.w.alloc (.cells arr t),S:=fun b o=>g.S b o∨(b=g.w.heap.size∧o<m) } :=
 h.grow (Gb g.w (.cells arr t)) (fun _ _ h=>.inl h) (fun B o hB=>hB.imp id fun ⟨e,_⟩=>⟨by omega,by simp; omega⟩)
/-- Elements whose cells are data, in a row of memory. -/
theorem Ys {S:Qj} {w:World} {k:Nat}:∀ {xss:List (List PV)} {B o:Nat} {vs:List Value},(∀ cs∈xss,cs.length=k)→Kv (fun p v=>Kh S w p v∧p.one=true) xss.flatten vs→w.rangeAt B o vs→(∀ j,j<vs.length→S B (o+j))→Wh S w k xss B o
 | [],B,o,vs,_,_,_,_=>by simp [Wh]
 | cs::xss,B,o,vs,hl,hv,hr,hS=>by
  simp only [Wh]
  have hk:cs.length=k:=hl cs (by simp)
  rw [List.flatten_cons] at hv
  have hvl:vs.length=cs.length+xss.flatten.length:=by rw [← hv.1]; simp
  refine ⟨hk, ?_, ?_⟩
  ·rw [Wf]
   intro i c hc
   have hi:i<cs.length:=(List.getElem?_eq_some_iff.1 hc).1
   obtain ⟨v,hv1,hv2⟩:=hv.right (i:=i) (x:=c) (by rw [List.getElem?_append_left hi]; exact hc)
   exact ⟨hv2.2,hS i (by omega),v,hr i v hv1,hv2.1⟩
  ·have hd:=hv.drop cs.length
   rw [List.drop_left] at hd
   refine Ys (fun cs hcs=>hl cs (by simp [hcs])) hd (fun j v hj=>?_) (fun j hj=>?_)
   ·rw [List.getElem?_drop] at hj
    have:=hr _ v hj
    rwa [show o+(cs.length+j)=o+k+j by omega] at this
   ·rw [List.length_drop] at hj
    have:=hS (cs.length+j) (by omega)
    rwa [show o+(cs.length+j)=o+k+j by omega] at this
end
end PM
