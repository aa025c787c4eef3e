/-
 THE PURE MACHINE, Qt: a region that draws its order, all orders walked.
-/
import Derived.Test.YtfpoeepcomnjhaaGreatDoorPmQh
import Derived.Scope
namespace PM
open Go Go.RowKit
section
variable {P:Program} {Gl:Nat->Option (List PV)} {s:PSt} {ops:Array Oper} {Q:PSt->Prop} {n:Nat} {listed:Array Bool}
def Ju6 (f:Nat->Prop):List Nat->Prop
 | []=>True
 | i::r=>f i/\Ju6 f r
theorem Jfb {f:Nat->Prop}:∀ {l:List Nat},Ju6 f l->∀ i∈l,f i
 | [],_,i,h=>by cases h
 | j::r,h,i,hi=>by
  rcases List.mem_cons.1 hi with rfl|hi
  ·exact h.1
  ·exact Jfb h.2 i hi
theorem Uy (is:List Nat) (h:(Region.ready .any ops listed,is.isEmpty)=(is,false))
  (hk:Ju6 (fun i=>∃ o,ops[i]? = some o/\Jv P Gl true [(o,Jb1 ops o)] s (Joj P Gl .any ops Q n (listed.setIfInBounds i true))) is):Joj P Gl .any ops Q (n+1) listed s:=by
 simp only [Prod.mk.injEq] at h;obtain ⟨h1,h2⟩:=h;refine ⟨fun e=>?_,fun i hi=>?_⟩
 ·rw [h1] at e; subst e; cases h2
 ·rw [h1] at hi;obtain ⟨o,ho,hp⟩:=Jfb hk i hi;refine ⟨o,ho, ?_⟩;simp only [Jv] at hp;exact Jao (fun q=>Or.resolve_right q fun e=>(by cases e.1)) hp
theorem Tp (h:(Region.ready .any ops listed).isEmpty=true) (hq:Q s):Joj P Gl .any ops Q 0 listed s:=⟨by simpa using h,hq⟩
theorem Er {d:Bool} (h:Q s):Jv P Gl d [] s Q:=h
theorem Kea {Q:Exit->PSt->Prop} {id:Nat} (n:Nat) (J:JS) (hm:P.follows .mixedOrders=true) (h:Joj P Gl .any ops (fun s'=>Wkr s' (J.st n)) ops.size (Array.replicate ops.size false) s) (hk:Q .normal (J.st n)):pwp P Gl (.region id ops true) Q s:=fun S0 w0 a w hi=>by
 obtain ⟨g,rfl,hg⟩:=hi;refine wp_region_any hm ?_;exact Jci (S0:=S0) (w0:=w0) (P:=P) (Gl:=Gl) (Q':=fun e a' w'=>∃ s',Q e s'/\Inv Gl S0 w0 s' a' w') (fun s' a' w' q i=>⟨_,hk,q Gl S0 w0 a' w' i⟩) ops.size (Array.replicate ops.size false) s a _ ⟨_,rfl,hg.drew.1⟩ h
end
section
variable {P:Program} {Gl:Nat->Option (List PV)} {s:PSt} {ops:Array Oper} {Q:PSt->Prop}
def pI (P:Program) (Gl:Nat->Option (List PV)) (ops:Array Oper) (Q:PSt->Prop) (n:Nat) (listed:Array Bool) (s:PSt):Prop:=Jni .any ops listed->Joj P Gl .any ops Q n listed s
def Jjy (ops:Array Oper) (is:List Nat):List (Oper×Gd):=is.filterMap fun i=>(ops[i]?).map fun o=>(o,Jb1 ops o)
def Jco : List Nat->Array Bool->Array Bool
 | [],l=>l
 | i::is,l=>Jco is (l.setIfInBounds i true)
def Kh3 (ms:List Nat) (ops:Array Oper):List Nat->Array Bool->Bool
 | [],_=>true
 | i::is,l=>(Region.ready .any ops l).contains i&&Juo ms ops l i&&Kh3 ms ops is (l.setIfInBounds i true)
theorem Kak (n:Nat):∀ (is:List Nat) (listed:Array Bool) (s:PSt),Kh3 (Jm5 ops.toList []) ops is listed=true->Jv P Gl true (Jjy ops is) s (pI P Gl ops Q n (Jco is listed))->pI P Gl ops Q (is.length+n) listed s
 | [],listed,s,_,h=>by
  simp only [Jjy,List.filterMap_nil,Jv,Jco] at h
  simpa using h
 | i::is,listed,s,hB,h=>by
  simp only [Kh3,Bool.and_eq_true] at hB;obtain ⟨⟨hr,hf⟩,hB'⟩:=hB;have hr':i∈Region.ready .any ops listed:=by simpa using hr
  have ho:∃ o,ops[i]? = some o:=by
   cases he:ops[i]? with
   | none=>simp [Juo,he] at hf
   | some o=>exact ⟨o,rfl⟩
  obtain ⟨o,ho⟩:=ho;have hop:Jjy ops (i::is)=(o,Jb1 ops o)::Jjy ops is:=by simp [Jjy,ho]
  rw [hop] at h;simp only [Jv] at h;obtain ⟨x,hy,hK⟩:=Jck.1 (show gOp P Gl ops o (fun s'=>Jv P Gl true (Jjy ops is) s' (pI P Gl ops Q n (Jco is (listed.setIfInBounds i true)))) s from Jao (y:=Sq P Gl true o s fun s'=>Jv P Gl true (Jjy ops is) s' (pI P Gl ops Q n (Jco is (listed.setIfInBounds i true)))) (fun q=>Or.resolve_right q fun e=>(by cases e.1)) h);intro hI;have hms:=Jf4 ops.toList [] (ops:=ops) (fun j m i hj=>by simp at hj) (by simp);rw [show (i::is).length+n=(is.length+n)+1 by simp; omega];exact Jm0 ho (is.length+n) listed s hI (Jmz hms ho hf) hr' hy (Kak n is _ _ hB' hK (hI.list hr'))
theorem Yu {m:Nat} {listed:Array Bool} (is:List Nat) (n:Nat) (h:(Kh3 (Jm5 ops.toList []) ops is listed&&(m == is.length+n))=true) (hk:Jv P Gl true (Jjy ops is) s (pI P Gl ops Q n (Jco is listed))):pI P Gl ops Q m listed s:=by
 simp only [Bool.and_eq_true,beq_iff_eq] at h;rw [h.2]; exact Kak n is listed s h.1 hk
theorem Mc {n m:Nat} {listed:Array Bool} (is:List Nat) (h:(Region.ready .any ops listed,is.isEmpty,m == n+1)=(is,false,true))
  (hk:Ju6 (fun i=>∃ o,ops[i]? = some o/\Jv P Gl true [(o,Jb1 ops o)] s (pI P Gl ops Q n (listed.setIfInBounds i true))) is):pI P Gl ops Q m listed s:=by
 simp only [Prod.mk.injEq,beq_iff_eq] at h;obtain ⟨h1,h2,rfl⟩:=h;intro hI;refine ⟨fun e=>?_,fun i hi=>?_⟩
 ·rw [h1] at e; subst e; cases h2
 ·have hi':=hi;rw [h1] at hi;obtain ⟨o,ho,hp⟩:=Jfb hk i hi;refine ⟨o,ho, ?_⟩;simp only [Jv] at hp;exact Kgn (fun s' hs=>hs (hI.list hi')) (show gOp P Gl ops o (pI P Gl ops Q n (listed.setIfInBounds i true)) s from Jao (fun q=>Or.resolve_right q fun e=>(by cases e.1)) hp)
theorem Yx {m:Nat} {listed:Array Bool} (h:((Region.ready .any ops listed).isEmpty&&(m == 0))=true) (hq:Q s):pI P Gl ops Q m listed s:=by
 simp only [Bool.and_eq_true,beq_iff_eq] at h;rw [h.2];exact fun _=>⟨by simpa using h.1,hq⟩
theorem Ke {Ls:List (Oper×Gd)} {d:Bool} (h:Ls.isEmpty=true) (hq:Q s):Jv P Gl d Ls s Q:=by
 cases Ls with
 | nil=>exact hq
 | cons x l=>simp at h
theorem Jje {Q:Exit->PSt->Prop} {id:Nat} (n:Nat) (J:JS) (hm:P.follows .mixedOrders=true) (h:pI P Gl ops (fun s'=>Wkr s' (J.st n)) ops.size (Array.replicate ops.size false) s) (hk:Q .normal (J.st n)):pwp P Gl (.region id ops true) Q s :=
 Kea n J hm (h (Jni.none _)) hk
end
section
variable {P:Program} {Gl:Nat->Option (List PV)} {s:PSt}
variable {α β σ:Type} {n l k:Nat} {J:σ->JS} {J0:α->JS} {Q:Exit->PSt->Prop} {v':σ} {v:α} {b:β} {r:α⊕β}
end
section
variable {κ ν:Type} [Key κ] [Enc ν] {P:Program} {Gl:Nat->Option (List PV)} {s:PSt} {Ls:List (Oper×Gd)} {Q:PSt->Prop}
def Jln (k:κ):List (κ×ν)->List (κ×ν)
 | []=>[]
 | e::es=>if k=e.1 then es else e::Jln k es
def mdHd (P:Program):List (Oper×Gd)->PSt->Option (Nat×PV)
 | (o,.always)::_,s=>match o.op with
  | .call c=>match c.callee,c.args.toList,c.argTypes.toList with
   | .builtin .delete,[m,k],t::_=>match s.ev m,Jb6 P t with
    | .mp l,some (d,_)=>if Gx d (s.ev k)=true then some (l,s.ev k) else none
    | _,_=>none
   | _,_,_=>none
  | _=>none
 | _,_=>none
theorem Jti (k:κ):∀ m:List (κ×ν),∃ i,Jdg (Enc.pv k) .any (Yl m)=some (if i<m.length then (Yl m).set i (Enc.pv k,.any) else Yl m++[(Enc.pv k,.any)])/\Yl (Jln k m)=(Yl m).eraseIdx i/\i<=m.length
 | []=>⟨0,rfl,rfl,Nat.le_refl _⟩
 | e::es=>by
  by_cases h:k=e.1
  ·exact ⟨0,by simp [Yl,Jdg,Key.keq,h],by simp [Yl,Jln,h],Nat.zero_le _⟩
  ·obtain ⟨i,i1,i2,i3⟩:=Jti k es;unfold Yl at i1 i2 ⊢;refine ⟨i+1, ?_,by simp [Jln,h,i2],by simp; omega⟩;simp only [List.map_cons,Jdg,Key.keq,h,decide_false,i1,Option.map_some,List.length_cons,Nat.add_lt_add_iff_right];split <;> simp
theorem Kf.eraseIdx {α β:Type} {R:α->β->Prop} {xs:List α} {ys:List β} (h:Kf R xs ys) (i:Nat):Kf R (xs.eraseIdx i) (ys.eraseIdx i):=by
 refine ⟨by simp [List.length_eraseIdx,h.1],fun j a b ha hb=>?_⟩;rw [List.getElem?_eraseIdx] at ha hb
 by_cases hj:j<i
 ·rw [if_pos hj] at ha hb; exact h.2 j a b ha hb
 ·rw [if_neg hj] at ha hb; exact h.2 (j+1) a b ha hb
theorem Jty {α:Type} {x:Array α} {a b:α} (h:x.toList=[a,b]):x=#[a,b]:=Array.toList_inj.1 h
theorem Kk2 {m:List (κ×ν)} {k:κ} (l:Nat) (hH:s.H l=some (.map (Yl m))) (h:mdHd P Ls s=some (l,Enc.pv k))
  (h2:Jv P Gl false (Ls.drop 1) (({ s with H:=upd s.H l (some (.map (Yl (Jln k m)))) }:PSt).put (Uj Ls) .any) Q):Jv P Gl false Ls s Q:=by
 unfold mdHd at h;split at h
 ·rename_i s0 o rest;split at h
  ·rename_i c hop;split at h
   ·rename_i x y t ts hcal hargs htys;split at h
    ·rename_i l' d z hx hm;split at h
     ·rename_i hd;simp only [Option.some.injEq,Prod.mk.injEq] at h;obtain ⟨rfl,hk⟩:=h;refine Td (n:={ s with H:=upd s.H l' (some (.map (Yl (Jln k m)))) }) (v:=.any) (by rw [hop]; rfl) ?_ h2;intro S0 w0 a g K Q' hg hK;have hgl:g.H l'=some (.map (Yl m)):=by rw [hg.hH]; exact hH
      obtain ⟨o1,o2,o3,arr,clock,⟨b1,b0⟩,b2⟩:=hg.objs l' _ hgl;obtain ⟨kt,et,m1,m2,m3,m4,m5⟩:=Xm hm;have hmx:a.eval x=.map (some (g.φ l')):=by have:=hg.ev x; rw [hx] at this; exact this.1
      have hky:=hg.ev y;rw [hk] at hd hky;have hkv:Jr g.S g.w (Enc.pv k) (a.eval y):=by
       revert hky hd;cases (Enc.pv k:PV) <;> intro hd hky <;> first|exact hky|(cases d <;> simp [Gx] at hd; done)|skip
       cases d <;> simp only [Gx] at hd <;> try cases hd
       obtain ⟨x1,y1,e⟩:=Hq hd;rw [e] at hky ⊢;exact Jep hky
      have hc:=Oe (P:=P) (w:=g.w) m2 m5 hd hkv arr.isEmpty;obtain ⟨i,i1,i2,i3⟩:=Jti (ν:=ν) k m;have fin:∀ arr':Array MapEntry,Fp arr' clock->(∀ g':GG,GLe g g'->Kf (Jhh g'.S g'.w) (Yl (Jln k m)) arr'.toList)->(Builtin.delete_ c.argTypes o.type #[a.eval x,a.eval y]).run P g.w=.ok (.tuple #[]) { g.w with heap:=g.w.heap.setIfInBounds (g.φ l') (.map arr' clock) }->o.wp P a g.w K Q':=by
       intro arr' hbo hall hrun;obtain ⟨hs1,hs2⟩:=MapKept.heap_set (o':=.map arr' clock) b1;obtain ⟨h3,e3⟩:=hg.setObj (l:=l') (ob':=.map (Yl (Jln k m))) (w':={ g.w with heap:=g.w.heap.setIfInBounds (g.φ l') (.map arr' clock) }) hgl
        ⟨rfl,rfl,rfl,by simp,fun r hr=>hs2 r hr,rfl⟩ (fun cs e=>by cases e) (fun g' hg' hw'=>⟨arr',clock,⟨by rw [hw']; exact hs1,hbo⟩,hall g' hg'⟩)
       have hrun2:(execOp a.eval o).run P g.w=.ok (.value (.tuple #[])) { g.w with heap:=g.w.heap.setIfInBounds (g.φ l') (.map arr' clock) }:=by
        have h1:c.args=#[x,y]:=Jty hargs;simp [execOp,hop,resolve,hcal,h1,invoke,builtin,hrun]
       unfold Oper.wp;rw [hrun2];exact hK _ _ h3 e3 (Rel.any _ _)
      have hat:c.argTypes[0]? = some t:=by rw [<- Array.getElem?_toList,htys]; rfl
      have up:∀ g':GG,GLe g g'->Kf (Jhh g'.S g'.w) (Yl m) arr.toList:=fun g' hg'=>b2.mono fun _ _ q=>⟨q.1.mono hg'.S hg'.cell hg'.blk,q.2.1.mono hg'.S hg'.cell hg'.blk,q.2.2⟩
      have hml:(Yl m).length=m.length:=by simp [Yl]
      rcases Jmf (P:=P) m2 m5 hd hkv b2 i1 with ⟨e1,hfk⟩|⟨j,m',hfk,h3,h4,e1⟩
      ·have hi:¬ i<m.length:=fun hi=>by
        rw [if_pos hi] at e1;have:=congrArg List.length e1;simp at this
       refine fin arr b0 (fun g' hg'=>?_) ?_
       ·rw [i2,List.eraseIdx_of_length_le (by omega)]; exact up g' hg'
       ·simp [Builtin.delete_,hat,run_underlying m1,hmx,MapKept.run_getObj_map b1,hc,hfk,MapKept.run_setObj_map _ b1]
      ·have hi:i=j:=by
        have hjl:j<(Yl m).length:=by rw [b2.1]; exact (List.getElem?_eq_some_iff.1 h3).1
        by_cases hi:i<m.length
        ·rw [if_pos hi] at e1
         by_cases hij:i=j
         ·exact hij
         ·exfalso;have:=congrArg (fun l:List (PV×PV)=>l[j]?) e1;simp only [List.getElem?_set,hij,if_false,if_true] at this;rw [if_pos hjl] at this;obtain ⟨q1,q2,q3⟩:=b2.2 j _ m' this h3;simp [Tf] at q3
        ·exfalso;rw [if_neg hi] at e1;have:=congrArg List.length e1;simp at this
       subst hi;refine fin (arr.eraseIdxIfInBounds i) (b0.erase i) (fun g' hg'=>?_) ?_
       ·rw [i2,show (arr.eraseIdxIfInBounds i).toList=arr.toList.eraseIdx i by simp]; exact (up g' hg').eraseIdx i
       ·simp [Builtin.delete_,hat,run_underlying m1,hmx,MapKept.run_getObj_map b1,hc,hfk,MapKept.run_setObj_map _ b1]
     ·cases h
    ·cases h
   ·cases h
  ·cases h
 ·cases h
end
section
variable {P:Program} {Gl:Nat->Option (List PV)} {s:PSt}
theorem Juz {c:Code} {Q:Exit->PSt->Prop} (h:pwp P Gl c (fun e s1=>∃ s,Wkr s1 s/\Q e s) s):pwp P Gl c Q s :=
 fun S0 w0 a w hi=>Zc (fun _ _ _ ⟨_,⟨s,hw,q⟩,i⟩=>⟨s,q,hw _ _ _ _ _ i⟩) (h S0 w0 a w hi)
def Jsd (P:Program) (Gl:Nat->Option (List PV)) (rs:List ResultVar) (k b N:Nat) (m:Option Nat) (xss':List (List PV)) (e:Exit) (s1:PSt):Prop:=∃ s,Wkr s1 s/\Kf3 P Gl rs k b N m xss' e s
theorem Jat {rs:List ResultVar} {k b N:Nat} {m:Option Nat} {xss':List (List PV)} (h:(s.X T0,s.T T0,Pi P Gl s rs)=(some (k,b,xss'),some (N,0),some (match m with|none=>[]|some m'=>[.ex T0 k b N 0 m']))):Jsd P Gl rs k b N m xss' .ret s:=⟨s,fun _ _ _ _ _ hi=>hi,h⟩
theorem Ji4 {s1:PSt} {rs:List ResultVar} {k b N:Nat} {m:Option Nat} {xss':List (List PV)} (hw:Wkr s1 s) (h:(s.X T0,s.T T0,Pi P Gl s rs)=(some (k,b,xss'),some (N,0),some (match m with|none=>[]|some m'=>[.ex T0 k b N 0 m']))):Jsd P Gl rs k b N m xss' .ret s1:=⟨s,hw,h⟩
theorem Cu {f:FuncId} {fn:Func} {c:Code} {args:List PV} {k b n:Nat} {xss xss':List (List PV)} {m:Option Nat} {rs:List ResultVar} (hf:P.funcs[f]? = some fn) (hname:(fn.name == "runtime.NumGoroutine")=false) (hb:fn.body=some c)
  (hn:fn.ntmps=n) (hrs:fn.results.toList=rs) (hflat:args.all Cr=true) (h:pwp P Gl c (Jsd P Gl rs k b xss.length m xss') (Kfm k b xss args n)):Ry P Gl f k b xss args m xss' :=
 Jr9 hf hname hb hn hrs hflat (Juz h)
end
end PM
