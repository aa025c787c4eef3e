/-
 THE PURE MACHINE, Qt: a region that draws its order, all orders walked.
-/
import Derived.Test.YtfpoeepcomnjhaaGreatDoorPmQh
import Derived.Scope
namespace PM
open Go Go.RowKit
section
variable {P:Program} {Gl:GL} {s:PSt} {ops:Array Oper} {Q:PSt->Prop} {n:Nat} {listed:Array Bool}
def Jwq(f:Nat->Prop):List Nat->Prop
 | []=>True
 | i::r=>f i/\Jwq f r
theorem Jhl{f:Nat->Prop}:∀ {l:List Nat},Jwq f l->∀ i∈l,f i
 | [],_,i,h=>by cases h
 | j::r,h,i,hi=>by
  rcases bD.1 hi with rfl|hi
  ·exact h.1
  ·exact Jhl h.2 i hi
theorem Qu(is:List Nat)(h:(Region.ready .any ops listed,is.isEmpty)=(is,false))(hk:Jwq (fun i=>∃ o,ops[i]? = some o/\Jy P Gl true [(o,Jd0 ops o)] s (Jq4 P Gl .any ops Q n (listed.setIfInBounds i true))) is):Jq4 P Gl .any ops Q (n+1) listed s:=by
 simp only [aM] at h;obtain ⟨h1,h2⟩:=h;refine ⟨fun e=>?_,fun i hi=>?_⟩
 ·rw [h1] at e; subst e; cases h2
 ·rw [h1] at hi;obtain ⟨o,ho,hp⟩:=Jhl hk i hi;refine ⟨o,ho, ?_⟩;simp only [Jy] at hp;exact Jcv (fun q=>Or.resolve_right q fun e=>(by cases e.1)) hp
theorem Lb(h:(Region.ready .any ops listed).isEmpty=true)(hq:Q s):Jq4 P Gl .any ops Q 0 listed s:=⟨by simpa using h,hq⟩
theorem Yw{d:Bool}(h:Q s):Jy P Gl d [] s Q:=h
theorem Kah{Q:Exit->PSt->Prop}{id:Nat}(n:Nat)(J:JS)(hm:P.follows .mixedOrders=true)(h:Jq4 P Gl .any ops (fun s'=>Wkr s' (J.st n)) ops.size (Array.replicate ops.size false) s)(hk:Q .normal (J.st n)):pwp P Gl (.region id ops true) Q s:=fun S0 w0 a w hi=>by
 obtain ⟨g,rfl,hg⟩:=hi;refine wp_region_any hm ?_;exact Jeb (S0:=S0) (w0:=w0) (P:=P) (Gl:=Gl) (Q':=fun e a' w'=>∃ s',Q e s'/\Inv Gl S0 w0 s' a' w') (fun s' a' w' q i=>⟨_,hk,q Gl S0 w0 a' w' i⟩) ops.size (Array.replicate ops.size false) s a _ ⟨_,rfl,hg.drew.1⟩ h
end
section
variable {P:Program} {Gl:GL} {s:PSt} {ops:Array Oper} {Q:PSt->Prop}
def pI(P:Program)(Gl:GL)(ops:Array Oper)(Q:PSt->Prop)(n:Nat)(listed:Array Bool)(s:PSt):Prop:=Jqz .any ops listed->Jq4 P Gl .any ops Q n listed s
def Jmu(ops:Array Oper)(is:List Nat):List (Oper×Gd):=is.filterMap fun i=>(ops[i]?).map fun o=>(o,Jd0 ops o)
def Jev : List Nat->Array Bool->Array Bool
 | [],l=>l
 | i::is,l=>Jev is (l.setIfInBounds i true)
def Kie(ms:List Nat)(ops:Array Oper):List Nat->Array Bool->Bool
 | [],_=>true
 | i::is,l=>(Region.ready .any ops l).contains i&&Jxa ms ops l i&&Kie ms ops is (l.setIfInBounds i true)
theorem Kau(n:Nat):∀ (is:List Nat) (listed:Array Bool) (s:PSt),Kie (Jpe ops.toList []) ops is listed=true->Jy P Gl true (Jmu ops is) s (pI P Gl ops Q n (Jev is listed))->pI P Gl ops Q (is.length+n) listed s
 | [],listed,s,_,h=>by
  simp only [Jmu,List.filterMap_nil,Jy,Jev] at h
  simpa using h
 | i::is,listed,s,hB,h=>by
  simp only [Kie,aI] at hB;obtain ⟨⟨hr,hf⟩,hB'⟩:=hB;have hr':i∈Region.ready .any ops listed:=by simpa using hr
  have ho:∃ o,ops[i]? = some o:=by
   cases he:ops[i]? with
   | none=>simp [Jxa,he] at hf
   | some o=>exact ⟨o,rfl⟩
  obtain ⟨o,ho⟩:=ho;have hop:Jmu ops (i::is)=(o,Jd0 ops o)::Jmu ops is:=by simp [Jmu,ho]
  rw [hop] at h;simp only [Jy] at h;obtain ⟨x,hy,hK⟩:=Jel.1 (show gOp P Gl ops o (fun s'=>Jy P Gl true (Jmu ops is) s' (pI P Gl ops Q n (Jev is (listed.setIfInBounds i true)))) s from Jcv (y:=Jat P Gl true o s fun s'=>Jy P Gl true (Jmu ops is) s' (pI P Gl ops Q n (Jev is (listed.setIfInBounds i true)))) (fun q=>Or.resolve_right q fun e=>(by cases e.1)) h);intro hI;have hms:=Ji2 ops.toList [] (ops:=ops) (fun j m i hj=>by simp at hj) sG;rw [show (i::is).length+n=(is.length+n)+1 by simp; omega];exact Jpr ho (is.length+n) listed s hI (Joz hms ho hf) hr' hy (Kau n is _ _ hB' hK (hI.list hr'))
theorem Zh{m:Nat}{listed:Array Bool}(is:List Nat)(n:Nat)(h:(Kie (Jpe ops.toList []) ops is listed&&(m == is.length+n))=true)(hk:Jy P Gl true (Jmu ops is) s (pI P Gl ops Q n (Jev is listed))):pI P Gl ops Q m listed s:=by
 simp only [aI,beq_iff_eq] at h;rw [h.2]; exact Kau n is listed s h.1 hk
theorem Nn{n m:Nat}{listed:Array Bool}(is:List Nat)(h:(Region.ready .any ops listed,is.isEmpty,m == n+1)=(is,false,true))(hk:Jwq (fun i=>∃ o,ops[i]? = some o/\Jy P Gl true [(o,Jd0 ops o)] s (pI P Gl ops Q n (listed.setIfInBounds i true))) is):pI P Gl ops Q m listed s:=by
 simp only [aM,beq_iff_eq] at h;obtain ⟨h1,h2,rfl⟩:=h;intro hI;refine ⟨fun e=>?_,fun i hi=>?_⟩
 ·rw [h1] at e; subst e; cases h2
 ·have hi':=hi;rw [h1] at hi;obtain ⟨o,ho,hp⟩:=Jhl hk i hi;refine ⟨o,ho, ?_⟩;simp only [Jy] at hp;exact Kdm (fun s' hs=>hs (hI.list hi')) (show gOp P Gl ops o (pI P Gl ops Q n (listed.setIfInBounds i true)) s from Jcv (fun q=>Or.resolve_right q fun e=>(by cases e.1)) hp)
theorem Zq{m:Nat}{listed:Array Bool}(h:((Region.ready .any ops listed).isEmpty&&(m == 0))=true)(hq:Q s):pI P Gl ops Q m listed s:=by
 simp only [aI,beq_iff_eq] at h;rw [h.2];exact fun _=>⟨by simpa using h.1,hq⟩
theorem Kf{Ls:List (Oper×Gd)}{d:Bool}(h:Ls.isEmpty=true)(hq:Q s):Jy P Gl d Ls s Q:=by
 cases Ls with
 | nil=>exact hq
 | cons x l=>simp at h
theorem Jkr{Q:Exit->PSt->Prop}{id:Nat}(n:Nat)(J:JS)(hm:P.follows .mixedOrders=true)(h:pI P Gl ops (fun s'=>Wkr s' (J.st n)) ops.size (Array.replicate ops.size false) s)(hk:Q .normal (J.st n)):pwp P Gl (.region id ops true) Q s :=
 Kah n J hm (h (Jqz.none _)) hk
end
section
variable {P:Program} {Gl:GL} {s:PSt}
variable {α β σ:Type} {n l k:Nat} {J:σ->JS} {J0:α->JS} {Q:Exit->PSt->Prop} {v':σ} {v:α} {b:β} {r:α⊕β}
end
section
variable {κ ν:Type} [Key κ] [Enc ν] {P:Program} {Gl:GL} {s:PSt} {Ls:List (Oper×Gd)} {Q:PSt->Prop}
def Jpz(k:κ):List (κ×ν)->List (κ×ν)
 | []=>[]
 | e::es=>if k=e.1 then es else e::Jpz k es
def mdHd(P:Program):List (Oper×Gd)->PSt->Option (Nat×PV)
 | (o,.always)::_,s=>match o.op with
  | .call c=>match c.callee,c.args.toList,c.argTypes.toList with
   | .builtin .delete,[m,k],t::_=>match s.ev m,Jdu P t with
    | .mp l,some (d,_)=>if Hx d (s.ev k)=true then some (l,s.ev k) else none
    | _,_=>none
   | _,_,_=>none
  | _=>none
 | _,_=>none
theorem Jxr(k:κ):∀ m:List (κ×ν),∃ i,Jfm (Enc.pv k) .any (Zj m)=some (if i<m.length then (Zj m).set i (Enc.pv k,.any) else Zj m++[(Enc.pv k,.any)])/\Zj (Jpz k m)=(Zj m).eraseIdx i/\i<=m.length
 | []=>⟨0,rfl,rfl,aJ _⟩
 | e::es=>by
  by_cases h:k=e.1
  ·exact ⟨0,by simp [Zj,Jfm,Key.keq,h],by simp [Zj,Jpz,h],dO _⟩
  ·obtain ⟨i,i1,i2,i3⟩:=Jxr k es;unfold Zj at i1 i2 ⊢;refine ⟨i+1, ?_,by simp [Jpz,h,i2],by simp; omega⟩;simp only [bT,Jfm,Key.keq,h,decide_false,i1,bH,aE,Nat.add_lt_add_iff_right];split <;> simp
theorem Kg.eraseIdx{α β:Type}{R:α->β->Prop}{xs:List α}{ys:List β}(h:Kg R xs ys)(i:Nat):Kg R (xs.eraseIdx i) (ys.eraseIdx i):=by
 refine ⟨by simp [List.length_eraseIdx,h.1],fun j a b ha hb=>?_⟩;rw [List.getElem?_eraseIdx] at ha hb
 by_cases hj:j<i
 ·rw [if_pos hj] at ha hb; exact h.2 j a b ha hb
 ·rw [if_neg hj] at ha hb; exact h.2 (j+1) a b ha hb
theorem Jvk{α:Type}{x:Array α}{a b:α}(h:x.toList=[a,b]):x=#[a,b]:=cM.1 h
theorem Kjr{m:List (κ×ν)}{k:κ}(l:Nat)(hH:s.H l=some (.map (Zj m)))(h:mdHd P Ls s=some (l,Enc.pv k))(h2:Jy P Gl false (Ls.drop 1) (({ s with H:=upd s.H l (some (.map (Zj (Jpz k m)))) }:PSt).put (Uk Ls) .any) Q):Jy P Gl false Ls s Q:=by
 unfold mdHd at h;split at h
 ·rename_i s0 o rest;split at h
  ·rename_i c hop;split at h
   ·rename_i x y t ts hcal hargs htys;split at h
    ·rename_i l' d z hx hm;split at h
     ·rename_i hd;simp only [aP,aM] at h;obtain ⟨rfl,hk⟩:=h;refine Jay (n:={ s with H:=upd s.H l' (some (.map (Zj (Jpz k m)))) }) (v:=.any) (by rw [hop]; rfl) ?_ h2;intro S0 w0 a g K Q' hg hK;have hgl:g.H l'=some (.map (Zj m)):=by rw [hg.hH]; exact hH
      obtain ⟨o1,o2,o3,arr,clock,⟨b1,b0⟩,b2⟩:=hg.objs l' _ hgl;obtain ⟨kt,et,m1,m2,m3,m4,m5⟩:=Jb4 hm;have hmx:a.eval x=.map (some (g.φ l')):=by have:=hg.ev x; rw [hx] at this; exact this.1
      have hky:=hg.ev y;rw [hk] at hd hky;have hkv:Jv g.S g.w (Enc.pv k) (a.eval y):=by
       revert hky hd;cases (Enc.pv k:PV) <;> intro hd hky <;> first|exact hky|(cases d <;> simp [Hx] at hd; done)|skip
       cases d <;> simp only [Hx] at hd <;> try cases hd
       obtain ⟨x1,y1,e⟩:=Lx hd;rw [e] at hky ⊢;exact Jg6 hky
      have hc:=Rj (P:=P) (w:=g.w) m2 m5 hd hkv arr.isEmpty;obtain ⟨i,i1,i2,i3⟩:=Jxr (ν:=ν) k m;have fin:∀ arr':Array MapEntry,Gz arr' clock->(∀ g':GG,GLe g g'->Kg (Jjv g'.S g'.w) (Zj (Jpz k m)) arr'.toList)->(Builtin.delete_ c.argTypes o.type #[a.eval x,a.eval y]).run P g.w=.ok (.tuple #[]) { g.w with heap:=g.w.heap.setIfInBounds (g.φ l') (.map arr' clock) }->o.wp P a g.w K Q':=by
       intro arr' hbo hall hrun;obtain ⟨hs1,hs2⟩:=MapKept.heap_set (o':=.map arr' clock) b1;obtain ⟨h3,e3⟩:=hg.setObj (l:=l') (ob':=.map (Zj (Jpz k m))) (w':={ g.w with heap:=g.w.heap.setIfInBounds (g.φ l') (.map arr' clock) }) hgl
        ⟨rfl,rfl,rfl,by simp,fun r hr=>hs2 r hr,rfl⟩ (fun cs e=>by cases e) (fun g' hg' hw'=>⟨arr',clock,⟨by rw [hw']; exact hs1,hbo⟩,hall g' hg'⟩)
       have hrun2:(execOp a.eval o).run P g.w=.ok (.value (.tuple #[])) { g.w with heap:=g.w.heap.setIfInBounds (g.φ l') (.map arr' clock) }:=by
        have h1:c.args=#[x,y]:=Jvk hargs;simp [execOp,hop,resolve,hcal,h1,invoke,builtin,hrun]
       unfold Oper.wp;rw [hrun2];exact hK _ _ h3 e3 (Rel.any _ _)
      have hat:c.argTypes[0]? = some t:=by rw [<- cB,htys]; rfl
      have up:∀ g':GG,GLe g g'->Kg (Jjv g'.S g'.w) (Zj m) arr.toList:=fun g' hg'=>b2.mono fun _ _ q=>⟨q.1.mono hg'.S hg'.cell hg'.blk,q.2.1.mono hg'.S hg'.cell hg'.blk,q.2.2⟩
      have hml:(Zj m).length=m.length:=by simp [Zj]
      rcases Jql (P:=P) m2 m5 hd hkv b2 i1 with ⟨e1,hfk⟩|⟨j,m',hfk,h3,h4,e1⟩
      ·have hi:¬ i<m.length:=fun hi=>by
        rw [if_pos hi] at e1;have:=congrArg List.length e1;simp at this
       refine fin arr b0 (fun g' hg'=>?_) ?_
       ·rw [i2,List.eraseIdx_of_length_le oG]; exact up g' hg'
       ·simp [Builtin.delete_,hat,run_underlying m1,hmx,MapKept.run_getObj_map b1,hc,hfk,MapKept.run_setObj_map _ b1]
      ·have hi:i=j:=by
        have hjl:j<(Zj m).length:=by rw [b2.1]; exact (aG.1 h3).1
        by_cases hi:i<m.length
        ·rw [if_pos hi] at e1
         by_cases hij:i=j
         ·exact hij
         ·exfalso;have:=congrArg (fun l:List (PV×PV)=>l[j]?) e1;simp only [cO,hij,if_false,if_true] at this;rw [if_pos hjl] at this;obtain ⟨q1,q2,q3⟩:=b2.2 j _ m' this h3;simp [Ja3] at q3
        ·exfalso;rw [if_neg hi] at e1;have:=congrArg List.length e1;simp at this
       subst hi;refine fin (arr.eraseIdxIfInBounds i) (b0.erase i) (fun g' hg'=>?_) ?_
       ·rw [i2,show (arr.eraseIdxIfInBounds i).toList=arr.toList.eraseIdx i by simp]; exact (up g' hg').eraseIdx i
       ·simp [Builtin.delete_,hat,run_underlying m1,hmx,MapKept.run_getObj_map b1,hc,hfk,MapKept.run_setObj_map _ b1]
     ·cases h
    ·cases h
   ·cases h
  ·cases h
 ·cases h
end
section
variable {P:Program} {Gl:GL} {s:PSt}
theorem Jye{c:Code}{Q:Exit->PSt->Prop}(h:pwp P Gl c (fun e s1=>∃ s,Wkr s1 s/\Q e s) s):pwp P Gl c Q s :=
 fun S0 w0 a w hi=>Zl (fun _ _ _ ⟨_,⟨s,hw,q⟩,i⟩=>⟨s,q,hw _ _ _ _ _ i⟩) (h S0 w0 a w hi)
def Jue(P:Program)(Gl:GL)(rs:List ResultVar)(k b N:Nat)(m:Option Nat)(xss':List (List PV))(e:Exit)(s1:PSt):Prop:=∃ s,Wkr s1 s/\Kd5 P Gl rs k b N m xss' e s
theorem Jco{rs:List ResultVar}{k b N:Nat}{m:Option Nat}{xss':List (List PV)}(h:(s.X T0,s.T T0,Sq P Gl s rs)=(some (k,b,xss'),some (N,0),some (match m with|none=>[]|some m'=>[.ex T0 k b N 0 m']))):Jue P Gl rs k b N m xss' .ret s:=⟨s,fun _ _ _ _ _ hi=>hi,h⟩
theorem Jlr{s1:PSt}{rs:List ResultVar}{k b N:Nat}{m:Option Nat}{xss':List (List PV)}(hw:Wkr s1 s)(h:(s.X T0,s.T T0,Sq P Gl s rs)=(some (k,b,xss'),some (N,0),some (match m with|none=>[]|some m'=>[.ex T0 k b N 0 m']))):Jue P Gl rs k b N m xss' .ret s1:=⟨s,hw,h⟩
theorem Du{f:FuncId}{fn:Func}{c:Code}{args:List PV}{k b n:Nat}{xss xss':List (List PV)}{m:Option Nat}{rs:List ResultVar}(hf:P.funcs[f]? = some fn)(hname:(fn.name == "runtime.NumGoroutine")=false)(hb:fn.body=some c)(hn:fn.ntmps=n)(hrs:fn.results.toList=rs)(hflat:args.all Cn=true)(h:pwp P Gl c (Jue P Gl rs k b xss.length m xss') (Kdn k b xss args n)):Jae P Gl f k b xss args m xss' :=
 Juv hf hname hb hn hrs hflat (Jye h)
end
end PM
