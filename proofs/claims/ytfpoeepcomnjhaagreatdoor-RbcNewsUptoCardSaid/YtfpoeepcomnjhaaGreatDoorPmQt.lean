/-
 THE PURE MACHINE, Qt: a region that draws its order, all orders walked.
-/
import Derived.Test.YtfpoeepcomnjhaaGreatDoorPmQh
import Derived.Scope
namespace PM
open Go Go.RowKit
section
variable {P:Program} {Gl:Nat→Option (List PV)} {s:PSt} {ops:Array Oper} {Q:PSt→Prop} {n:Nat} {listed:Array Bool}
def Jtr (f:Nat→Prop):List Nat→Prop
 | []=>True
 | i::r=>f i∧Jtr f r
theorem Jfn {f:Nat→Prop}:∀ {l:List Nat},Jtr f l→∀ i∈l,f i
 | [],_,i,h=>by cases h
 | j::r,h,i,hi=>by
  rcases List.mem_cons.1 hi with rfl|hi
  ·exact h.1
  ·exact Jfn h.2 i hi
theorem Ux (is:List Nat) (h:(Region.ready .any ops listed,is.isEmpty)=(is,false))
  (hk:Jtr (fun i=>∃ o,ops[i]? = some o∧Kl P Gl true [(o,Jbx ops o)] s (Jpm P Gl .any ops Q n (listed.setIfInBounds i true))) is):Jpm P Gl .any ops Q (n+1) listed s:=by
 simp only [Prod.mk.injEq] at h;obtain ⟨h1,h2⟩:=h;refine ⟨fun e=>?_,fun i hi=>?_⟩
 ·rw [h1] at e; subst e; cases h2
 ·rw [h1] at hi;obtain ⟨o,ho,hp⟩:=Jfn hk i hi;refine ⟨o,ho, ?_⟩;simp only [Kl] at hp;exact Xw (fun q=>Or.resolve_right q fun e=>(by cases e.1)) hp
theorem Ta (h:(Region.ready .any ops listed).isEmpty=true) (hq:Q s):Jpm P Gl .any ops Q 0 listed s:=⟨by simpa using h,hq⟩
theorem Ee {d:Bool} (h:Q s):Kl P Gl d [] s Q:=h
theorem Jzz {Q:Exit→PSt→Prop} {id:Nat} (n:Nat) (J:JS) (hm:P.follows .mixedOrders=true) (h:Jpm P Gl .any ops (fun s'=>Wkr s' (J.st n)) ops.size (Array.replicate ops.size false) s) (hk:Q .normal (J.st n)):pwp P Gl (.region id ops true) Q s:=fun S0 w0 a w hi=>by
 obtain ⟨g,rfl,hg⟩:=hi;refine wp_region_any hm ?_;exact Jcj (S0:=S0) (w0:=w0) (P:=P) (Gl:=Gl) (Q':=fun e a' w'=>∃ s',Q e s'∧Inv Gl S0 w0 s' a' w') (fun s' a' w' q i=>⟨_,hk,q Gl S0 w0 a' w' i⟩) ops.size (Array.replicate ops.size false) s a _ ⟨_,rfl,hg.drew.1⟩ h
end
section
variable {P:Program} {Gl:Nat→Option (List PV)} {s:PSt} {ops:Array Oper} {Q:PSt→Prop}
def pI (P:Program) (Gl:Nat→Option (List PV)) (ops:Array Oper) (Q:PSt→Prop) (n:Nat) (listed:Array Bool) (s:PSt):Prop:=Jnc .any ops listed→Jpm P Gl .any ops Q n listed s
def Jle (ops:Array Oper) (is:List Nat):List (Oper×Gd):=is.filterMap fun i=>(ops[i]?).map fun o=>(o,Jbx ops o)
def Jce : List Nat→Array Bool→Array Bool
 | [],l=>l
 | i::is,l=>Jce is (l.setIfInBounds i true)
def Ka1 (ms:List Nat) (ops:Array Oper):List Nat→Array Bool→Bool
 | [],_=>true
 | i::is,l=>(Region.ready .any ops l).contains i&&Juf ms ops l i&&Ka1 ms ops is (l.setIfInBounds i true)
theorem Jwd (n:Nat):∀ (is:List Nat) (listed:Array Bool) (s:PSt),Ka1 (Jol ops.toList []) ops is listed=true→Kl P Gl true (Jle ops is) s (pI P Gl ops Q n (Jce is listed))→pI P Gl ops Q (is.length+n) listed s
 | [],listed,s,_,h=>by
  simp only [Jle,List.filterMap_nil,Kl,Jce] at h
  simpa using h
 | i::is,listed,s,hB,h=>by
  simp only [Ka1,Bool.and_eq_true] at hB;obtain ⟨⟨hr,hf⟩,hB'⟩:=hB;have hr':i∈Region.ready .any ops listed:=by simpa using hr
  have ho:∃ o,ops[i]? = some o:=by
   cases he:ops[i]? with
   | none=>simp [Juf,he] at hf
   | some o=>exact ⟨o,rfl⟩
  obtain ⟨o,ho⟩:=ho;have hop:Jle ops (i::is)=(o,Jbx ops o)::Jle ops is:=by simp [Jle,ho]
  rw [hop] at h;simp only [Kl] at h;obtain ⟨x,hy,hK⟩:=Jcv.1 (show gOp P Gl ops o (fun s'=>Kl P Gl true (Jle ops is) s' (pI P Gl ops Q n (Jce is (listed.setIfInBounds i true)))) s from Xw (y:=Rk P Gl true o s fun s'=>Kl P Gl true (Jle ops is) s' (pI P Gl ops Q n (Jce is (listed.setIfInBounds i true)))) (fun q=>Or.resolve_right q fun e=>(by cases e.1)) h);intro hI;have hms:=Jg3 ops.toList [] (ops:=ops) (fun j m i hj=>by simp at hj) (by simp);rw [show (i::is).length+n=(is.length+n)+1 by simp; omega];exact Jmt ho (is.length+n) listed s hI (Jm8 hms ho hf) hr' hy (Jwd n is _ _ hB' hK (hI.list hr'))
theorem Yc {m:Nat} {listed:Array Bool} (is:List Nat) (n:Nat) (h:(Ka1 (Jol ops.toList []) ops is listed&&(m == is.length+n))=true) (hk:Kl P Gl true (Jle ops is) s (pI P Gl ops Q n (Jce is listed))):pI P Gl ops Q m listed s:=by
 simp only [Bool.and_eq_true,beq_iff_eq] at h;rw [h.2]; exact Jwd n is listed s h.1 hk
theorem Ih {n m:Nat} {listed:Array Bool} (is:List Nat) (h:(Region.ready .any ops listed,is.isEmpty,m == n+1)=(is,false,true))
  (hk:Jtr (fun i=>∃ o,ops[i]? = some o∧Kl P Gl true [(o,Jbx ops o)] s (pI P Gl ops Q n (listed.setIfInBounds i true))) is):pI P Gl ops Q m listed s:=by
 simp only [Prod.mk.injEq,beq_iff_eq] at h;obtain ⟨h1,h2,rfl⟩:=h;intro hI;refine ⟨fun e=>?_,fun i hi=>?_⟩
 ·rw [h1] at e; subst e; cases h2
 ·have hi':=hi;rw [h1] at hi;obtain ⟨o,ho,hp⟩:=Jfn hk i hi;refine ⟨o,ho, ?_⟩;simp only [Kl] at hp;exact Jy8 (fun s' hs=>hs (hI.list hi')) (show gOp P Gl ops o (pI P Gl ops Q n (listed.setIfInBounds i true)) s from Xw (fun q=>Or.resolve_right q fun e=>(by cases e.1)) hp)
theorem Yl {m:Nat} {listed:Array Bool} (h:((Region.ready .any ops listed).isEmpty&&(m == 0))=true) (hq:Q s):pI P Gl ops Q m listed s:=by
 simp only [Bool.and_eq_true,beq_iff_eq] at h;rw [h.2];exact fun _=>⟨by simpa using h.1,hq⟩
theorem Kq {Ls:List (Oper×Gd)} {d:Bool} (h:Ls.isEmpty=true) (hq:Q s):Kl P Gl d Ls s Q:=by
 cases Ls with
 | nil=>exact hq
 | cons x l=>simp at h
theorem Jkd {Q:Exit→PSt→Prop} {id:Nat} (n:Nat) (J:JS) (hm:P.follows .mixedOrders=true) (h:pI P Gl ops (fun s'=>Wkr s' (J.st n)) ops.size (Array.replicate ops.size false) s) (hk:Q .normal (J.st n)):pwp P Gl (.region id ops true) Q s :=
 Jzz n J hm (h (Jnc.none _)) hk
end
section
variable {P:Program} {Gl:Nat→Option (List PV)} {s:PSt}
variable {α β σ:Type} {n l k:Nat} {J:σ→JS} {J0:α→JS} {Q:Exit→PSt→Prop} {v':σ} {v:α} {b:β} {r:α⊕β}
end
section
variable {κ ν:Type} [Key κ] [Enc ν] {P:Program} {Gl:Nat→Option (List PV)} {s:PSt} {Ls:List (Oper×Gd)} {Q:PSt→Prop}
def Jrm (k:κ):List (κ×ν)→List (κ×ν)
 | []=>[]
 | e::es=>if k=e.1 then es else e::Jrm k es
def mdHd (P:Program):List (Oper×Gd)→PSt→Option (Nat×PV)
 | (o,.always)::_,s=>match o.op with
  | .call c=>match c.callee,c.args.toList,c.argTypes.toList with
   | .builtin .delete,[m,k],t::_=>match s.ev m,Jbo P t with
    | .mp l,some (d,_)=>if Fw d (s.ev k)=true then some (l,s.ev k) else none
    | _,_=>none
   | _,_,_=>none
  | _=>none
 | _,_=>none
theorem Jtj (k:κ):∀ m:List (κ×ν),∃ i,Jdt (Enc.pv k) .any (Wc m)=some (if i<m.length then (Wc m).set i (Enc.pv k,.any) else Wc m++[(Enc.pv k,.any)])∧Wc (Jrm k m)=(Wc m).eraseIdx i∧i≤m.length
 | []=>⟨0,rfl,rfl,Nat.le_refl _⟩
 | e::es=>by
  by_cases h:k=e.1
  ·exact ⟨0,by simp [Wc,Jdt,Key.keq,h],by simp [Wc,Jrm,h],Nat.zero_le _⟩
  ·obtain ⟨i,i1,i2,i3⟩:=Jtj k es;unfold Wc at i1 i2 ⊢;refine ⟨i+1, ?_,by simp [Jrm,h,i2],by simp; omega⟩;simp only [List.map_cons,Jdt,Key.keq,h,decide_false,i1,Option.map_some,List.length_cons,Nat.add_lt_add_iff_right];split <;> simp
theorem Kp.eraseIdx {α β:Type} {R:α→β→Prop} {xs:List α} {ys:List β} (h:Kp R xs ys) (i:Nat):Kp R (xs.eraseIdx i) (ys.eraseIdx i):=by
 refine ⟨by simp [List.length_eraseIdx,h.1],fun j a b ha hb=>?_⟩;rw [List.getElem?_eraseIdx] at ha hb
 by_cases hj:j<i
 ·rw [if_pos hj] at ha hb; exact h.2 j a b ha hb
 ·rw [if_neg hj] at ha hb; exact h.2 (j+1) a b ha hb
theorem Js9 {α:Type} {x:Array α} {a b:α} (h:x.toList=[a,b]):x=#[a,b]:=Array.toList_inj.1 h
theorem Kc1 {m:List (κ×ν)} {k:κ} (l:Nat) (hH:s.H l=some (.map (Wc m))) (h:mdHd P Ls s=some (l,Enc.pv k))
  (h2:Kl P Gl false (Ls.drop 1) (({ s with H:=upd s.H l (some (.map (Wc (Jrm k m)))) }:PSt).put (Um Ls) .any) Q):Kl P Gl false Ls s Q:=by
 unfold mdHd at h;split at h
 ·rename_i s0 o rest;split at h
  ·rename_i c hop;split at h
   ·rename_i x y t ts hcal hargs htys;split at h
    ·rename_i l' d z hx hm;split at h
     ·rename_i hd;simp only [Option.some.injEq,Prod.mk.injEq] at h;obtain ⟨rfl,hk⟩:=h;refine Sj (n:={ s with H:=upd s.H l' (some (.map (Wc (Jrm k m)))) }) (v:=.any) (by rw [hop]; rfl) ?_ h2;intro S0 w0 a g K Q' hg hK;have hgl:g.H l'=some (.map (Wc m)):=by rw [hg.hH]; exact hH
      obtain ⟨o1,o2,o3,arr,clock,b1,b2⟩:=hg.objs l' _ hgl;obtain ⟨kt,et,m1,m2,m3,m4,m5⟩:=Tk hm;have hmx:a.eval x=.map (some (g.φ l')):=by have:=hg.ev x; rw [hx] at this; exact this.1
      have hky:=hg.ev y;rw [hk] at hd hky;have hkv:Ke g.S g.w (Enc.pv k) (a.eval y):=by
       revert hky hd;cases (Enc.pv k:PV) <;> intro hd hky <;> first|exact hky|(cases d <;> simp [Fw] at hd; done)|skip
       cases d <;> simp only [Fw] at hd <;> try cases hd
       obtain ⟨x1,y1,e⟩:=Gz hd;rw [e] at hky ⊢;exact Jeo hky
      have hc:=Ng (P:=P) (w:=g.w) m2 m5 hd hkv arr.isEmpty;obtain ⟨i,i1,i2,i3⟩:=Jtj (ν:=ν) k m;have fin:∀ arr':Array MapEntry,(∀ g':GG,GLe g g'→Kp (Jh1 g'.S g'.w) (Wc (Jrm k m)) arr'.toList)→(Builtin.delete_ c.argTypes o.type #[a.eval x,a.eval y]).run P g.w=.ok (.tuple #[]) { g.w with heap:=g.w.heap.setIfInBounds (g.φ l') (.map arr' clock) }→o.wp P a g.w K Q':=by
       intro arr' hall hrun;obtain ⟨hs1,hs2⟩:=MapKept.heap_set (o':=.map arr' clock) b1;obtain ⟨h3,e3⟩:=hg.setObj (l:=l') (ob':=.map (Wc (Jrm k m))) (w':={ g.w with heap:=g.w.heap.setIfInBounds (g.φ l') (.map arr' clock) }) hgl
        ⟨rfl,rfl,rfl,by simp,fun r hr=>hs2 r hr,rfl⟩ (fun cs e=>by cases e) (fun g' hg' hw'=>⟨arr',clock,by rw [hw']; exact hs1,hall g' hg'⟩)
       have hrun2:(execOp a.eval o).run P g.w=.ok (.value (.tuple #[])) { g.w with heap:=g.w.heap.setIfInBounds (g.φ l') (.map arr' clock) }:=by
        have h1:c.args=#[x,y]:=Js9 hargs;simp [execOp,hop,resolve,hcal,h1,invoke,builtin,hrun]
       unfold Oper.wp;rw [hrun2];exact hK _ _ h3 e3 (Rel.any _ _)
      have hat:c.argTypes[0]? = some t:=by rw [← Array.getElem?_toList,htys]; rfl
      have up:∀ g':GG,GLe g g'→Kp (Jh1 g'.S g'.w) (Wc m) arr.toList:=fun g' hg'=>b2.mono fun _ _ q=>⟨q.1.mono hg'.S hg'.cell hg'.blk,q.2.1.mono hg'.S hg'.cell hg'.blk,q.2.2⟩
      have hml:(Wc m).length=m.length:=by simp [Wc]
      rcases Jmn (P:=P) m2 m5 hd hkv b2 i1 with ⟨e1,hfk⟩|⟨j,m',hfk,h3,h4,e1⟩
      ·have hi:¬ i<m.length:=fun hi=>by
        rw [if_pos hi] at e1;have:=congrArg List.length e1;simp at this
       refine fin arr (fun g' hg'=>?_) ?_
       ·rw [i2,List.eraseIdx_of_length_le (by omega)]; exact up g' hg'
       ·simp [Builtin.delete_,hat,run_underlying m1,hmx,MapKept.run_getObj_map b1,hc,hfk,MapKept.run_setObj_map _ b1]
      ·have hi:i=j:=by
        have hjl:j<(Wc m).length:=by rw [b2.1]; exact (List.getElem?_eq_some_iff.1 h3).1
        by_cases hi:i<m.length
        ·rw [if_pos hi] at e1
         by_cases hij:i=j
         ·exact hij
         ·exfalso;have:=congrArg (fun l:List (PV×PV)=>l[j]?) e1;simp only [List.getElem?_set,hij,if_false,if_true] at this;rw [if_pos hjl] at this;obtain ⟨q1,q2,q3⟩:=b2.2 j _ m' this h3;simp [Sk] at q3
        ·exfalso;rw [if_neg hi] at e1;have:=congrArg List.length e1;simp at this
       subst hi;refine fin (arr.eraseIdxIfInBounds i) (fun g' hg'=>?_) ?_
       ·rw [i2,show (arr.eraseIdxIfInBounds i).toList=arr.toList.eraseIdx i by simp]; exact (up g' hg').eraseIdx i
       ·simp [Builtin.delete_,hat,run_underlying m1,hmx,MapKept.run_getObj_map b1,hc,hfk,MapKept.run_setObj_map _ b1]
     ·cases h
    ·cases h
   ·cases h
  ·cases h
 ·cases h
end
section
variable {P:Program} {Gl:Nat→Option (List PV)} {s:PSt}
theorem Jtb {c:Code} {Q:Exit→PSt→Prop} (h:pwp P Gl c (fun e s1=>∃ s,Wkr s1 s∧Q e s) s):pwp P Gl c Q s :=
 fun S0 w0 a w hi=>Yj (fun _ _ _ ⟨_,⟨s,hw,q⟩,i⟩=>⟨s,q,hw _ _ _ _ _ i⟩) (h S0 w0 a w hi)
def Jqv (P:Program) (Gl:Nat→Option (List PV)) (rs:List ResultVar) (k b N:Nat) (m:Option Nat) (xss':List (List PV)) (e:Exit) (s1:PSt):Prop:=∃ s,Wkr s1 s∧Jzt P Gl rs k b N m xss' e s
theorem Xr {rs:List ResultVar} {k b N:Nat} {m:Option Nat} {xss':List (List PV)} (h:(s.X T0,s.T T0,Ob P Gl s rs)=(some (k,b,xss'),some (N,0),some (match m with|none=>[]|some m'=>[.ex T0 k b N 0 m']))):Jqv P Gl rs k b N m xss' .ret s:=⟨s,fun _ _ _ _ _ hi=>hi,h⟩
theorem Jj1 {s1:PSt} {rs:List ResultVar} {k b N:Nat} {m:Option Nat} {xss':List (List PV)} (hw:Wkr s1 s) (h:(s.X T0,s.T T0,Ob P Gl s rs)=(some (k,b,xss'),some (N,0),some (match m with|none=>[]|some m'=>[.ex T0 k b N 0 m']))):Jqv P Gl rs k b N m xss' .ret s1:=⟨s,hw,h⟩
theorem Ch {f:FuncId} {fn:Func} {c:Code} {args:List PV} {k b n:Nat} {xss xss':List (List PV)} {m:Option Nat} {rs:List ResultVar} (hf:P.funcs[f]? = some fn) (hname:(fn.name == "runtime.NumGoroutine")=false) (hb:fn.body=some c)
  (hn:fn.ntmps=n) (hrs:fn.results.toList=rs) (hflat:args.all Cb=true) (h:pwp P Gl c (Jqv P Gl rs k b xss.length m xss') (Jy2 k b xss args n)):Pl P Gl f k b xss args m xss' :=
 Jsb hf hname hb hn hrs hflat (Jtb h)
end
end PM
