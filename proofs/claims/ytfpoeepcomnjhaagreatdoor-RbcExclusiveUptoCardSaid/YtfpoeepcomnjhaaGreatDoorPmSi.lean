/-
 THE PURE MACHINE, Si: slices.Sort at ints, as a call that changes a list in place (over the shelf's contract).
-/
import Derived.Test.YtfpoeepcomnjhaaGreatDoorPmSk
import Derived.Shelf.Sort.Plain
import Derived.Shelf.Slices.In.SortNone
namespace PM
open Go Go.RowKit
theorem Jqb (L:List Int):(L.map cellsOf).flatten=L.map fun n=>PV.int .i64 n:=by
 induction L with
 | nil=>rfl
 | cons x L ih=>simp only [List.map_cons,List.flatten_cons,ih]; rfl
theorem Je5 (L:List Int):(L.map fun n=>PV.int .i64 n).all Jt6=true/\(L.map fun n=>PV.int .i64 n).map Ki5=L.map fun n=>Value.int .i64 n:=by
 refine ⟨?_, ?_⟩
 ·rw [List.all_eq_true];intro p hp;obtain ⟨x,_,rfl⟩:=List.mem_map.1 hp
  rfl
 ·rw [List.map_map]; rfl
section
variable {P:Program} {ρ:Go.Shelf.Ren} {Gl:Nat->Option (List PV)}
theorem Jvf (L:Go.Proofs.Lays.n189 P ρ) (hfn:Js3 P (ρ.f 189)) (Ls:List Int) :
  Ry P Gl (ρ.f 189) 1 8 (Ls.map cellsOf) [] none ((Ls.mergeSort fun x y=>decide (x<=y)).map cellsOf):=by
 refine ⟨hfn,fun S w hv vs hS hglob hin hargs=>?_⟩;have hvs:vs=#[]:=Array.toList_inj.1 hargs.nil_left;subst hvs;have hperm:=List.mergeSort_perm Ls (fun x y=>decide (x<=y));have hlen:(Ls.mergeSort fun x y=>decide (x<=y)).length=Ls.length:=hperm.length_eq;have hk':∀ (M:List Int),∀ cs∈M.map cellsOf,cs.length=1:=fun M cs hcs=>by
  obtain ⟨x,_,rfl⟩:=List.mem_map.1 hcs
  rfl
 rcases hin.lies with ⟨hn,hnil⟩|⟨B,cap,e1,hc0,hcap,hB,hSB,⟨us,u1,u2⟩,hth⟩
 ·have hL:Ls=[]:=by simpa using hnil
  subst hL;have hcall:∃ p cap,hv=.slice p 0 cap:=by
   rcases hn with rfl|⟨B,off,rfl⟩
   ·exact ⟨none,0,rfl⟩
   ·exact ⟨_,0,rfl⟩
  obtain ⟨p,cap,rfl⟩:=hcall;have hcon:=Go.Proofs.Any.slices_Sort_int_none L p cap w;refine hcon.mono ?_;rintro e w' ⟨rfl,rfl⟩;exact ⟨_,S,rfl,Wk.refl _ _,fun _ _ h=>h,fun _ _ h=>.inl h,by simpa using hin,by simp,fun m' q=>by cases q⟩
 ·subst e1;have hus:us=Ls.map fun n=>Value.int .i64 n:=by
   rw [Jqb] at u1;rw [(Jp1 (Je5 Ls).1).1 u1,(Je5 Ls).2]
  have hul:us.length=Ls.length:=by rw [hus]; simp
  have hcap':Ls.length<=cap:=by simpa using hcap
  have hH:Go.Sort.Holds (Value.int .i64) w B 0 Ls.toArray:=fun j hj=>by
   have hj':j<Ls.length:=by simpa using hj
   have h2:=hth j (by omega);rw [Nat.zero_add] at h2 ⊢;refine ⟨?_,h2.2⟩;have h3:=u2 j _ (List.getElem?_eq_getElem (by omega:j<us.length));rw [Nat.zero_add] at h3;rw [h3];congr 1;simp [hus,hj']
  have hcon:=Go.Proofs.Any.slices_Sort_int L B 0 cap Ls w hH hB (by
   have:=hin.l2;simp only [List.length_map] at this;omega)
  simp only [List.length_map];refine (show Calls P (ρ.f 189) (#[.slice (some ⟨B,0,none⟩) Ls.length cap]++#[]) w _ from by simpa using hcon).mono ?_;rintro e w' ⟨rfl,n,os,rfl⟩;generalize hM:(Ls.mergeSort fun x y=>decide (x<=y))=M at *;have hMs:M.toArray.size=Ls.toArray.size:=by simpa using hlen
  have hH1:Go.Sort.Holds (Value.int .i64) (Go.Sort.ahead w n) B 0 Ls.toArray:=hH;have hH2:=Go.Sort.holds_putRow (Value.int .i64) (Go.Sort.ahead w n) B 0 Ls.toArray M.toArray hH1 hMs;have hBs:B<(Go.Sort.putRow (Value.int .i64) (Go.Sort.ahead w n) B 0 M.toArray).heap.size:=by
   rw [Go.Sort.size_putRow]; exact hB
  have hsize:w.heap.size<=(Go.Sort.grow (Go.Sort.putRow (Value.int .i64) (Go.Sort.ahead w n) B 0 M.toArray) os).heap.size:=by
   unfold Go.Sort.grow;simp only [Array.size_append];rw [Go.Sort.size_putRow];exact Nat.le_add_right _ _
  have hbelow:Wk (HB (.slice (some ⟨B,0,none⟩) Ls.length cap)) w (Go.Sort.grow (Go.Sort.putRow (Value.int .i64) (Go.Sort.ahead w n) B 0 M.toArray) os):=by
   refine ⟨rfl,rfl,rfl,hsize,fun k' hk1 hk2=>?_, ?_⟩
   ·have hne:k'≠B:=fun e=>hk2 ⟨0,_,cap,by rw [e],hc0⟩;unfold Go.Sort.grow Go.Sort.putRow Go.Sort.mapBlock Go.Sort.ahead;simp only;rw [Array.getElem?_append_left (by simpa using hk1),Array.getElem?_modify,if_neg (Ne.symm hne)]
   ·refine DR.of_le ?_;unfold Go.Sort.grow Go.Sort.putRow Go.Sort.mapBlock Go.Sort.ahead;simp
  refine ⟨_,S,rfl,hbelow,fun _ _ h=>h,fun _ _ h=>.inl h,⟨by decide,hk' M,by simpa [hlen] using hin.l1,by simpa [hlen] using hin.l2,.inr ⟨B,cap,by simp [hlen],hc0,by simpa [hlen] using hcap,Nat.lt_of_lt_of_le hB hsize,hSB,⟨M.map fun n=>Value.int .i64 n,by rw [Jqb]; exact (Jp1 (Je5 M).1).2 (Je5 M).2.symm,fun j v hj=>?_⟩,fun j hj=>?_⟩⟩,by simp [hlen],fun m' q=>by cases q⟩
  ·have hj':j<M.length:=by
    have:=(List.getElem?_eq_some_iff.1 hj).1
    simpa using this
   have h5:=hH2 j (by simpa using hj');rw [Go.Sort.cell?_grow _ _ _ hBs,h5.1,<- hj];simp [hj']
  ·have h6:=hth j hj;obtain ⟨u,hu⟩:=Option.isSome_iff_exists.1 h6.1;obtain ⟨c,ee,fr,hb,hc⟩:=Go.Sort.cells_of_cell? (k:=0+j) hu;rw [Go.Sort.cell?_grow _ _ _ hBs,Go.Sort.frozen?_grow _ _ _ hBs];rw [Go.Sort.frozen?_putRow];refine ⟨?_,h6.2⟩;unfold Go.Sort.putRow;rw [Go.Sort.cell?_mapBlock (Go.Sort.ahead w n) B _ _ (c:=c) (e:=ee) (fr:=fr) hb];simp only [Go.Sort.putCells,Array.getElem?_mapIdx,hc,Option.map_some]
   rfl
end
end PM
