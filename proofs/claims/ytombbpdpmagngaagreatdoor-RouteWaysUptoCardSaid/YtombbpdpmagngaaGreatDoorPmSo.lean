/-
 THE PURE MACHINE, So: slices.SortFunc at structs, as a call that changes a list in place (over the shelf's contract).
-/
import Derived.Test.YtombbpdpmagngaaGreatDoorPmQ
import Derived.Shelf.SlSortCmp.NoneTotal
namespace PM
open Go Go.RowKit
def Jq8 : PV→Value
 | .int k n=>.int k n
 | .bool b=>.bool b
 | .str s=>.string s
 | _=>undef
def Jeg : PV→Bool
 | .int _ _|.bool _|.str _=>true
 | _=>false
theorem Jm2 {S:Kz} {w:World} {p:PV} {v:Value} (h:Jeg p=true):Jy S w p v↔v=Jq8 p:=by
 cases p <;> simp only [Jeg,Bool.false_eq_true] at h <;> simp only [Jy,Jq8]
theorem Jem {S:Kz} {w:World} {ps:List PV} {vs:List Value} (h:ps.all Jeg=true):Ko (fun p v=>Jy S w p v∧p.one=true) ps vs↔vs=ps.map Jq8:=by
 induction ps generalizing vs with
 | nil=>exact ⟨fun q=>q.nil_left,fun q=>by subst q; exact .nil⟩
 | cons p ps ih =>
  simp only [List.all_cons,Bool.and_eq_true] at h
  constructor
  ·intro q
   obtain ⟨v,vs',rfl,h1,h2⟩:=q.cons_left
   rw [(Jm2 h.1).1 h1.1,(ih h.2).1 h2]; rfl
  ·intro q
   subst q
   refine .cons ⟨(Jm2 h.1).2 rfl, ?_⟩ ((ih h.2).2 rfl)
   cases p <;> simp only [Jeg,Bool.false_eq_true] at h <;> first|rfl|(exact absurd h.1 (by simp))
theorem Js5 {p:PV} (h:Jeg p=true):(Jq8 p).oneCell'=true:=by
 cases p <;> simp only [Jeg,Bool.false_eq_true] at h <;> rfl
theorem Jjv {W w':World} (h:Di W.heap.size W w'):∃ q os',w'=Go.Sort.grow (W.drewN q) os':=by
 refine ⟨w'.drawn - W.drawn,w'.heap.extract W.heap.size w'.heap.size, ?_⟩
 have hheap:w'.heap=W.heap++w'.heap.extract W.heap.size w'.heap.size:=by
  apply Array.ext_getElem?
  intro i
  rw [Array.getElem?_append]
  by_cases hi:i<W.heap.size
  ·rw [if_pos hi]; exact h.block i hi
  ·rw [if_neg hi,Array.getElem?_extract]
   have hs:=h.size
   by_cases h2:i<w'.heap.size
   ·rw [if_pos (by omega)]; congr 1; omega
   ·rw [if_neg (by omega),Array.getElem?_eq_none (by omega)]
 have hd:=h.dr
 obtain ⟨hp,tp,dr,os,out⟩:=w'
 have h1:=h.os
 have h2:=h.tape
 have h3:=h.output
 simp only at h1 h2 h3 hheap hd
 subst h1; subst h2; subst h3
 simp only [Go.Sort.grow,World.drewN]
 congr 1
 omega
section
variable {P:Program} {ρ:Go.Shelf.Ren} {α:Type} [Inhabited α] [Enc α] {Gl:Nat→Option (List PV)}
def Eu (x:α):List Value:=(cellsOf x).map Jq8
/-- What the row of the list's cells is, flat. -/
theorem Jhd (hk:∀ x:α,(cellsOf x).length=Enc.k α) (L:List α):(Go.Sort.flatK (Eu (α:=α)) (Enc.k α) L.toArray).toList=(L.map Eu).flatten:=by
 have hlen:∀ x:α,(Eu x).length=Enc.k α:=fun x=>by simp [Eu,hk]
 apply List.ext_getElem?
 intro t
 have hsz:(Go.Sort.flatK (Eu (α:=α)) (Enc.k α) L.toArray).toList.length=L.length * Enc.k α:=by simp
 have hsz2:(L.map Eu).flatten.length=L.length * Enc.k α:=by
  clear hsz
  induction L with
  | nil=>simp
  | cons x L ih=>simp only [List.map_cons,List.flatten_cons,List.length_append,hlen,ih,List.length_cons,Nat.succ_mul]; omega
 by_cases ht:t<L.length * Enc.k α
 ·have h1:(Go.Sort.flatK (Eu (α:=α)) (Enc.k α) L.toArray).toList[t]? = some ((Eu (L.toArray[t / Enc.k α]!))[t % Enc.k α]!):=by
   have h2:=Go.Sort.get_flatK (Eu (α:=α)) (Enc.k α) L.toArray t (by simpa using ht)
   rw [← h2,List.getElem?_eq_getElem (by simpa using ht)]
   simp [ht]
  rw [h1]
  have hk0:0<Enc.k α:=by
   rcases Nat.eq_zero_or_pos (Enc.k α) with h|h
   ·rw [h] at ht; simp at ht
   ·exact h
  clear hsz hsz2 h1
  induction L generalizing t with
  | nil=>simp at ht
  | cons x L ih =>
   rw [List.map_cons,List.flatten_cons,List.getElem?_append,hlen]
   by_cases h:t<Enc.k α
   ·rw [if_pos h,Nat.div_eq_of_lt h,Nat.mod_eq_of_lt h]
    have:t<(Eu x).length:=by rw [hlen]; exact h
    simp [this]
   ·rw [if_neg h]
    have h3:=ih (t - Enc.k α) (by rw [List.length_cons,Nat.succ_mul] at ht; omega)
    rw [← h3]
    have e1:t / Enc.k α=(t - Enc.k α) / Enc.k α+1:=by
     conv=>lhs; rw [show t=(t - Enc.k α)+Enc.k α by omega]
     rw [Nat.add_div_right _ hk0]
    have e2:t % Enc.k α=(t - Enc.k α) % Enc.k α:=by
     conv=>lhs; rw [show t=(t - Enc.k α)+Enc.k α by omega]
     rw [Nat.add_mod_right]
    rw [e1,e2]
    have:((x::L).toArray)[(t - Enc.k α) / Enc.k α+1]! = (L.toArray)[(t - Enc.k α) / Enc.k α]!:=by simp [Array.getElem!_eq_getD,Array.getD]
    rw [this]
 ·rw [List.getElem?_eq_none (by omega),List.getElem?_eq_none (by omega)]
omit [Inhabited α] in
theorem Jdq (hf:∀ x:α,(cellsOf x).all Jeg=true) (L:List α):((L.map cellsOf).flatten).all Jeg=true∧((L.map cellsOf).flatten).map Jq8=(L.map Eu).flatten:=by
 induction L with
 | nil=>simp
 | cons x L ih=>simp only [List.map_cons,List.flatten_cons,List.all_append,hf,ih.1,List.map_append,ih.2,Bool.and_self,true_and]; rfl
theorem Jo5 (L:Go.Proofs.SlLaysF0.n6 P ρ) (aE:∀ w,(isAgg (ρ.t 24)).run P w=.ok true w) (zE:∀ w,(Go.sizeOf (ρ.t 24)).run P w=.ok (Enc.k α) w) (hf:∀ x:α,(cellsOf x).all Jeg=true) (hk:∀ x:α,(cellsOf x).length=Enc.k α) (hpv:∀ x:α,Enc.pv x=.agg (cellsOf x)) (hk0:Enc.k α≠0)
  (cf:α→α→Int) (hO:Go.Sort.SWO (Go.Proofs.ltOf cf)) (hT:∀ x y,Go.Proofs.ltOf cf x y=false→Go.Proofs.ltOf cf y x=false→x=y) (g:FuncId) (hcmp:∀ x y:α,Km P Gl g [Enc.pv x,Enc.pv y] (.int .i64 (cf x y))) (hfn:Jn4 P (ρ.f 6)) (Ls:List α) :
  Jfq P Gl (ρ.f 6) (Enc.k α) (Enc.b α) (Ls.map cellsOf) [.fn g []] none ((Ls.mergeSort fun x y => !(Go.Proofs.ltOf cf) y x).map cellsOf):=by
 refine ⟨hfn,fun S w hv vs hS hglob hin hargs=>?_⟩
 have hvs:vs=#[.func (.func g) #[] #[]]:=by
  obtain ⟨v,vs',e1,e2,e3⟩:=hargs.cons_left
  rw [e3.nil_left] at e1
  simp only [Jy] at e2
  obtain ⟨arr,e4,e5⟩:=e2
  simp only [Ff] at e5
  apply Array.toList_inj.1
  rw [e1,e4]
  have:arr=#[]:=Array.toList_inj.1 (by simpa using e5)
  rw [this]
 subst hvs
 have hperm:=List.mergeSort_perm Ls (fun x y => !(Go.Proofs.ltOf cf) y x)
 have hlen:(Ls.mergeSort fun x y => !(Go.Proofs.ltOf cf) y x).length=Ls.length:=hperm.length_eq
 have hk':∀ (M:List α),∀ cs∈M.map cellsOf,cs.length=Enc.k α:=fun M cs hcs=>by
  obtain ⟨x,_,rfl⟩:=List.mem_map.1 hcs
  exact hk x
 rcases hin.lies with ⟨hn,hnil⟩|⟨B,cap,e1,hc0,hcap,hB,hSB,⟨us,u1,u2⟩,hth⟩
 ·have hL:Ls=[]:=by simpa using hnil
  subst hL
  have hcall:∃ p cap,hv=.slice p 0 cap:=by
   rcases hn with rfl|⟨B,off,rfl⟩
   ·exact ⟨none,0,rfl⟩
   ·exact ⟨_,0,rfl⟩
  obtain ⟨p,cap,rfl⟩:=hcall
  have hcon:=Go.Proofs.AnyF.slices_SortFunc_none L p cap (.func (.func g) #[] #[]) w
  refine hcon.mono ?_
  rintro e w' ⟨rfl,rfl⟩
  exact ⟨_,S,rfl,Vh.refl _ _,fun _ _ h=>h,fun _ _ h=>.inl h,by simpa using hin,by simp,fun m' q=>by cases q⟩
 ·subst e1
  have hfl:=Jdq hf Ls
  have hus:us=(Ls.map Eu).flatten:=by rw [(Jem hfl.1).1 u1,hfl.2]
  have hlenL:(Ls.map cellsOf).length=Ls.length:=by simp
  have hfk:=Jhd hk Ls
  have hul:us.length=Ls.length * Enc.k α:=by
   rw [hus,← hfk]; simp
  have hckm:Ls.length * Enc.k α≤cap * Enc.k α:=Nat.mul_le_mul_right _ (by simpa using hcap)
  have hH:Go.Sort.HoldsK (Eu (α:=α)) (Enc.k α) w B 0 Ls.toArray:=fun j hj=>by
   have hj':j<Ls.length * Enc.k α:=by simpa using hj
   have h2:=hth j (by omega)
   rw [Nat.zero_add] at h2 ⊢
   refine ⟨?_,h2.2⟩
   have h3:=u2 j _ (List.getElem?_eq_getElem (by omega:j<us.length))
   rw [Nat.zero_add] at h3
   rw [h3]
   congr 1
   have:us[j]? = (Go.Sort.flatK (Eu (α:=α)) (Enc.k α) Ls.toArray).toList[j]?:=by rw [hus,hfk]
   rw [List.getElem?_eq_getElem (by omega)] at this
   have h4:(Go.Sort.flatK (Eu (α:=α)) (Enc.k α) Ls.toArray).toList[j]? = some ((Go.Sort.flatK (Eu (α:=α)) (Enc.k α) Ls.toArray)[j]!):=by
    rw [List.getElem?_eq_getElem (by simpa using hj')]; simp [hj']
   rw [h4] at this
   simpa using this
  have eg:∀ args w,(callFunc g args).run P w=.ok (.enter g args) w:=fun args w=>by
   obtain ⟨⟨fn,f1,f2,f3⟩,_⟩:=hcmp default default
   have hname:fn.name ≠ "runtime.NumGoroutine" := by simpa using f2
   have hbody:fn.body≠none:=fun e=>by rw [e] at f3; cases f3
   simp [callFunc,run_program,f1,hname,hbody]
  have hother:∀ (m:Nat) (os:Array Obj) (dk:Array α) (B' o:Nat),B'≠B→B'<w.heap.size→(Go.Proofs.sortWorldK (Eu (α:=α)) (Enc.k α) w B 0 m dk os).cell? ⟨B',o,none⟩=w.cell? ⟨B',o,none⟩:=fun m os dk B' o h1 h2=>Go.Proofs.cell?_sortWorldK_other _ _ w B 0 m dk os ⟨B',o,none⟩ h1 h2
  have hblkO:∀ (m:Nat) (os:Array Obj) (dk:Array α) (B':Nat),B'≠B→B'<w.heap.size→(Go.Proofs.sortWorldK (Eu (α:=α)) (Enc.k α) w B 0 m dk os).heap[B']? = w.heap[B']?:=fun m os dk B' h1 h2=>by
   unfold Go.Proofs.sortWorldK
   rw [Go.Sort.heap_grow_old _ _ (by rw [Go.Sort.size_putRowK]; exact h2)]
   have:B≠B':=fun e=>h1 e.symm
   simp [Go.Sort.putRowK,Go.Sort.putRow,Go.Sort.mapBlock,Go.Sort.ahead,Array.getElem?_modify,this]
  have hsize:∀ (m:Nat) (os:Array Obj) (dk:Array α),w.heap.size≤(Go.Proofs.sortWorldK (Eu (α:=α)) (Enc.k α) w B 0 m dk os).heap.size:=fun m os dk=>Go.Proofs.size_sortWorldK_c _ _ w B 0 m dk os
  have hlays:Go.Proofs.CmpLays P g #[] (Eu (α:=α)) (Enc.k α) cf B 0 Ls.toArray.size w:=fun m os dk hdk x y=>by
   have hcx:=(hcmp x y).2 S (Go.Proofs.sortWorldK (Eu (α:=α)) (Enc.k α) w B 0 m dk os) #[.agg (Eu x).toArray,.agg (Eu y).toArray] (fun B' o h=>Nat.lt_of_lt_of_le (hS B' o h) (hsize m os dk))
    (fun i cs hi=>(hglob i cs hi).mono (fun _ _ h=>h) (fun B' o h=>hother m os dk B' o (fun e=>hSB o (e▸h)) (hS B' o h)) fun B' h=>hblkO m os dk B' (fun e=>hSB 0 (e▸h 0)) (hS B' 0 (h 0)))
    (by
     have hrel:∀ z:α,Jy S (Go.Proofs.sortWorldK (Eu (α:=α)) (Enc.k α) w B 0 m dk os) (Enc.pv z) (.agg (Eu z).toArray):=fun z=>by
      rw [hpv]
      simp only [Jy]
      refine ⟨_,rfl,(Uy _ _).2 ?_⟩
      exact ((Jem (hf z)).2 rfl).mono fun _ _ q=>q.1
     exact .cons (hrel x) (.cons (hrel y) .nil))
   refine hcx.mono ?_
   rintro e w' ⟨v,g',rfl,rfl,ha⟩
   have hv:=ha.rel
   rw [Qy] at hv
   exact ⟨by rw [hv],Jjv ha.below⟩
  have hcon:=Go.Proofs.AnyQ.slices_SortFunc_total L (Enc.k α) aE zE (Eu (α:=α)) (fun x=>by simp [Eu,hk]) (fun x v hv=>by
   obtain ⟨p,hp,rfl⟩:=List.mem_map.1 hv
   exact Js5 (List.all_eq_true.1 (hf x) p hp)) cf hO g #[] B 0 cap Ls.toArray w eg hlays hH hB (by
   have:=hin.l2
   simp only [List.length_map] at this
   simp only [List.size_toArray]
   omega) hT
  simp only [List.length_map]
  refine (show Calls P (ρ.f 6) (#[.slice (some ⟨B,0,none⟩) Ls.length cap]++#[.func (.func g) #[] #[]]) w _ from by simpa using hcon).mono ?_
  rintro e w' ⟨rfl,n,os,rfl⟩
  generalize hM:(Ls.mergeSort fun x y => !(Go.Proofs.ltOf cf) y x)=M at *
  have hMs:M.toArray.size=Ls.toArray.size:=by simpa using hlen
  have hH2:Go.Sort.HoldsK (Eu (α:=α)) (Enc.k α) (Go.Proofs.sortWorldK (Eu (α:=α)) (Enc.k α) w B 0 n M.toArray os) B 0 M.toArray:=Go.Proofs.holdsK_sortWorldK_c _ _ w B 0 Ls.toArray M.toArray n os hH hB hMs
  have hflM:=Jdq hf M
  have hbelow:Vh (HB (.slice (some ⟨B,0,none⟩) Ls.length cap)) w (Go.Proofs.sortWorldK (Eu (α:=α)) (Enc.k α) w B 0 n M.toArray os):=by
   refine ⟨rfl,rfl,rfl,hsize n os _,fun k' hk1 hk2=>?_, ?_⟩
   ·have hne:k'≠B:=fun e=>hk2 ⟨0,_,cap,by rw [e],hc0⟩
    unfold Go.Proofs.sortWorldK Go.Sort.grow Go.Sort.putRowK Go.Sort.putRow Go.Sort.mapBlock Go.Sort.ahead
    simp only
    rw [Array.getElem?_append_left (by simpa using hk1),Array.getElem?_modify,if_neg (Ne.symm hne)]
   ·unfold Go.Proofs.sortWorldK Go.Sort.grow Go.Sort.putRowK Go.Sort.putRow Go.Sort.mapBlock Go.Sort.ahead
    simp
  refine ⟨_,S,rfl,hbelow,fun _ _ h=>h,fun _ _ h=>.inl h,⟨hk0,hk' M,by simpa [hlen] using hin.l1,by simpa [hlen] using hin.l2,.inr ⟨B,cap,by simp [hlen],hc0,by simpa [hlen] using hcap,Nat.lt_of_lt_of_le hB (hsize n os _),hSB,⟨(M.map Eu).flatten,(Jem hflM.1).2 hflM.2.symm,fun j v hj=>?_⟩,fun j hj=>?_⟩⟩,by simp [hlen],fun m' q=>by cases q⟩
  ·have hfkM:=Jhd hk M
   rw [← hfkM] at hj
   have hj':j<M.length * Enc.k α:=by
    have:=(List.getElem?_eq_some_iff.1 hj).1
    simpa using this
   have h5:=hH2 j (by simpa using hj')
   rw [h5.1]
   have h4:(Go.Sort.flatK (Eu (α:=α)) (Enc.k α) M.toArray).toList[j]? = some ((Go.Sort.flatK (Eu (α:=α)) (Enc.k α) M.toArray)[j]!):=by
    rw [List.getElem?_eq_getElem (by simpa using hj')]; simp [hj']
   rw [h4] at hj
   exact hj
  ·have h6:=hth j hj
   obtain ⟨u,hu⟩:=Option.isSome_iff_exists.1 h6.1
   obtain ⟨c,ee,fr,hb,hc⟩:=Go.Sort.cells_of_cell? (k:=0+j) hu
   have hBs:B<(Go.Sort.putRowK (Eu (α:=α)) (Enc.k α) (Go.Sort.ahead w n) B 0 M.toArray).heap.size:=by
    unfold Go.Sort.putRowK Go.Sort.putRow Go.Sort.mapBlock Go.Sort.ahead; simpa using hB
   unfold Go.Proofs.sortWorldK
   rw [Go.Sort.cell?_grow _ _ _ hBs,Go.Sort.frozen?_grow _ _ _ hBs]
   unfold Go.Sort.putRowK
   rw [Go.Sort.frozen?_putRow]
   refine ⟨?_,h6.2⟩
   unfold Go.Sort.putRow
   rw [Go.Sort.cell?_mapBlock (Go.Sort.ahead w n) B _ _ (c:=c) (e:=ee) (fr:=fr) hb]
   simp only [Go.Sort.putCells,Array.getElem?_mapIdx,hc,Option.map_some]
   rfl
end
end PM
