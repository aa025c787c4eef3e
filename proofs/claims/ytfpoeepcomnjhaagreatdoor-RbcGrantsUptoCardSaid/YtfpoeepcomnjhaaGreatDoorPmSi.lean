/-
 THE PURE MACHINE, Si: slices.Sort at ints, as a call that changes a list in place (over the shelf's contract).
-/
import Derived.Test.YtfpoeepcomnjhaaGreatDoorPmSk
import Derived.Shelf.Sort.Plain
import Derived.Shelf.Slices.In.SortNone
namespace PM
open Go Go.RowKit
theorem Jrw(L:List Int):(L.map cellsOf).flatten=L.map fun n=>PV.int .i64 n:=by
 induction L with
 | nil=>rfl
 | cons x L ih=>simp only [bT,bX,ih]; rfl
theorem Jhn(L:List Int):(L.map fun n=>PV.int .i64 n).all Jwz=true/\(L.map fun n=>PV.int .i64 n).map Kik=L.map fun n=>Value.int .i64 n:=by
 refine ⟨?_, ?_⟩
 ·rw [aK];intro p hp;obtain ⟨x,_,rfl⟩:=bN.1 hp
  rfl
 ·rw [List.map_map]; rfl
section
variable {P:Program} {ρ:Go.Shelf.Ren} {Gl:GL}
theorem Jwx(L:Go.Proofs.Lays.n189 P ρ)(hfn:Jv6 P (ρ.f 189))(Ls:List Int) :
  Jae P Gl (ρ.f 189) 1 8 (Ls.map cellsOf) [] none ((Ls.mergeSort fun x y=>decide (x<=y)).map cellsOf):=by
 refine ⟨hfn,fun S w hv vs hS hglob hin hargs=>?_⟩;have hvs:vs=#[]:=cM.1 hargs.nil_left;subst hvs;have hperm:=dL Ls (fun x y=>decide (x<=y));have hlen:(Ls.mergeSort fun x y=>decide (x<=y)).length=Ls.length:=hperm.length_eq;have hk':∀ (M:List Int),∀ cs∈M.map cellsOf,cs.length=1:=fun M cs hcs=>by
  obtain ⟨x,_,rfl⟩:=bN.1 hcs
  rfl
 rcases hin.lies with ⟨hn,hnil⟩|⟨B,cap,e1,hc0,hcap,hB,hSB,⟨us,u1,u2⟩,hth⟩
 ·have hL:Ls=[]:=by simpa using hnil
  subst hL;have hcall:∃ p cap,hv=.slice p 0 cap:=by
   rcases hn with rfl|⟨B,off,rfl⟩
   ·exact ⟨none,0,rfl⟩
   ·exact ⟨_,0,rfl⟩
  obtain ⟨p,cap,rfl⟩:=hcall;have hcon:=Go.Proofs.Any.slices_Sort_int_none L p cap w;refine hcon.mono ?_;rintro e w' ⟨rfl,rfl⟩;exact ⟨_,S,rfl,Wr.refl _ _,fun _ _ h=>h,fun _ _ h=>.inl h,by simpa using hin,by simp,fun m' q=>by cases q⟩
 ·subst e1;have hus:us=Ls.map fun n=>Value.int .i64 n:=by
   rw [Jrw] at u1;rw [(Jr1 (Jhn Ls).1).1 u1,(Jhn Ls).2]
  have hul:us.length=Ls.length:=by rw [hus]; simp
  have hcap':Ls.length<=cap:=by simpa using hcap
  have hH:Go.Sort.Holds (Value.int .i64) w B 0 Ls.toArray:=fun j hj=>by
   have hj':j<Ls.length:=by simpa using hj
   have h2:=hth j oG;rw [aW] at h2 ⊢;refine ⟨?_,h2.2⟩;have h3:=u2 j _ (aB (by omega:j<us.length));rw [aW] at h3;rw [h3];congr 1;simp [hus,hj']
  have hcon:=Go.Proofs.Any.slices_Sort_int L B 0 cap Ls w hH hB (by
   have:=hin.l2;simp only [aV] at this;omega)
  simp only [aV];refine (show Calls P (ρ.f 189) (#[.slice (some ⟨B,0,none⟩) Ls.length cap]++#[]) w _ from by simpa using hcon).mono ?_;rintro e w' ⟨rfl,n,os,rfl⟩;generalize hM:(Ls.mergeSort fun x y=>decide (x<=y))=M at *;have hMs:M.toArray.size=Ls.toArray.size:=by simpa using hlen
  have hH1:Go.Sort.Holds (Value.int .i64) (Go.Sort.ahead w n) B 0 Ls.toArray:=hH;have hH2:=Go.Sort.holds_putRow (Value.int .i64) (Go.Sort.ahead w n) B 0 Ls.toArray M.toArray hH1 hMs;have hBs:B<(Go.Sort.putRow (Value.int .i64) (Go.Sort.ahead w n) B 0 M.toArray).heap.size:=by
   rw [Go.Sort.size_putRow]; exact hB
  have hsize:w.heap.size<=(Go.Sort.grow (Go.Sort.putRow (Value.int .i64) (Go.Sort.ahead w n) B 0 M.toArray) os).heap.size:=by
   unfold Go.Sort.grow;simp only [dU];rw [Go.Sort.size_putRow];exact Nat.le_add_right _ _
  have hbelow:Wr (HB (.slice (some ⟨B,0,none⟩) Ls.length cap)) w (Go.Sort.grow (Go.Sort.putRow (Value.int .i64) (Go.Sort.ahead w n) B 0 M.toArray) os):=by
   refine ⟨rfl,rfl,rfl,hsize,fun k' hk1 hk2=>?_, ?_⟩
   ·have hne:k'≠B:=fun e=>hk2 ⟨0,_,cap,by rw [e],hc0⟩;unfold Go.Sort.grow Go.Sort.putRow Go.Sort.mapBlock Go.Sort.ahead;simp only;rw [cN (by simpa using hk1),eR,if_neg (Ne.symm hne)]
   ·refine DR.of_le ?_;unfold Go.Sort.grow Go.Sort.putRow Go.Sort.mapBlock Go.Sort.ahead;simp
  refine ⟨_,S,rfl,hbelow,fun _ _ h=>h,fun _ _ h=>.inl h,⟨by decide,hk' M,by simpa [hlen] using hin.l1,by simpa [hlen] using hin.l2,.inr ⟨B,cap,by simp [hlen],hc0,by simpa [hlen] using hcap,cJ hB hsize,hSB,⟨M.map fun n=>Value.int .i64 n,by rw [Jrw]; exact (Jr1 (Jhn M).1).2 (Jhn M).2.symm,fun j v hj=>?_⟩,fun j hj=>?_⟩⟩,by simp [hlen],fun m' q=>by cases q⟩
  ·have hj':j<M.length:=by
    have:=(aG.1 hj).1
    simpa using this
   have h5:=hH2 j (by simpa using hj');rw [Go.Sort.cell?_grow _ _ _ hBs,h5.1,<- hj];simp [hj']
  ·have h6:=hth j hj;obtain ⟨u,hu⟩:=aL.1 h6.1;obtain ⟨c,ee,fr,hb,hc⟩:=Go.Sort.cells_of_cell? (k:=0+j) hu;rw [Go.Sort.cell?_grow _ _ _ hBs,Go.Sort.frozen?_grow _ _ _ hBs];rw [Go.Sort.frozen?_putRow];refine ⟨?_,h6.2⟩;unfold Go.Sort.putRow;rw [Go.Sort.cell?_mapBlock (Go.Sort.ahead w n) B _ _ (c:=c) (e:=ee) (fr:=fr) hb];simp only [Go.Sort.putCells,Array.getElem?_mapIdx,hc,bH]
   rfl
end
end PM
