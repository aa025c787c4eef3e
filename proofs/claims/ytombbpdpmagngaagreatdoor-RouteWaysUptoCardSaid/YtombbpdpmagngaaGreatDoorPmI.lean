/-
 THE PURE MACHINE, I: strconv.Itoa (over the shelf's contract); a table of the library's, as the shelf asks for it.
-/
import Derived.Test.YtombbpdpmagngaaGreatDoorPmQt
import Derived.Shelf.Strconv.Itoa3
namespace PM
open Go Go.RowKit
structure U64 where
 n:Int
instance : Enc U64:=⟨1,8,fun x=>.int .u64 x.n⟩
instance : Inhabited U64:=⟨⟨0⟩⟩
theorem Jld {P:Program} {S:Kz} {w:World} {name:String} {g:Nat} (hg:P.globalNamed name=some g) {k:IntKind} {z:Int} {zs:List Int} (h:Dq S w ((z::zs).map fun x=>PV.int k x) g):Lib.TabIs P w name k (z::zs):=by
 obtain ⟨h1,_,h3⟩:=h
 have hat:=(Vb _ _ _).1 h1
 unfold Lib.TabIs World.var?
 rw [hg,Option.bind_some]
 have h0:=hat 0 _ rfl
 obtain ⟨_,_,v,hv,_⟩:=h0
 unfold World.cell? at hv h3
 dsimp only at hv h3 ⊢
 split at hv
 ·rename_i c e sy hh
  rw [hh] at h3 ⊢
  dsimp only at h3 ⊢
  congr 1
  rw [if_neg (by simp)] at h3
  have hsz:c.size=(z::zs).length:=by
   have hge:¬ (z::zs).length<c.size:=fun hlt=>by
    rw [List.length_map,Array.getElem?_eq_getElem hlt] at h3; cases h3
   have hle:(z::zs).length≤c.size:=by
    obtain ⟨_,_,u,hu,_⟩:=hat zs.length (.int k ((z::zs)[zs.length]'(by simp))) (by rw [List.getElem?_map,List.getElem?_eq_getElem (by simp)]; rfl)
    unfold World.cell? at hu
    dsimp only at hu
    rw [hh] at hu
    dsimp only at hu
    rw [if_neg (by simp)] at hu
    have:=(Array.getElem?_eq_some_iff.1 hu).1
    simp only [List.length_cons]; omega
   omega
  apply Array.ext_getElem?
  intro i
  by_cases hi:i<(z::zs).length
  ·obtain ⟨_,_,u,hu,hr⟩:=hat i (.int k ((z::zs)[i])) (by rw [List.getElem?_map,List.getElem?_eq_getElem hi]; rfl)
   unfold World.cell? at hu
   dsimp only at hu
   rw [hh] at hu
   dsimp only at hu
   rw [if_neg (by simp),Nat.zero_add] at hu
   rw [hu]
   simp only [Jy] at hr
   rw [hr]
   simp only [List.getElem?_toArray,List.getElem?_map,List.getElem?_eq_getElem hi,Option.map_some]
  ·rw [Array.getElem?_eq_none (by omega)]
   simp only [List.getElem?_toArray,List.getElem?_map]
   rw [List.getElem?_eq_none (by omega)]; rfl
 ·cases hv
theorem Jnp (w:World) (k:Nat) (os:Array Obj):Di w.heap.size w (Go.Sort.grow (w.drewN k) os):=by
 refine ⟨⟨rfl,rfl,rfl, ?_,fun i hi=>?_⟩,Nat.le_add_right _ _⟩
 ·show w.heap.size≤(w.heap++os).size
  rw [Array.size_append]; omega
 ·show (w.heap++os)[i]? = w.heap[i]?
  rw [Array.getElem?_append,if_pos hi]
theorem Jq7 {S:Kz} {w w':World} (s:ByteArray) (h:Di w.heap.size w w'):Jk3 S w (.str s) (.string s) ⟨S,w',fun _=>0,fun _=>undef,fun _=>none,fun _=>none⟩ :=
 ⟨h,fun _ _ q=>q,fun _ _ q=>.inl q,fun _=>rfl,fun t n k=>⟨(fun e=>by cases e),(fun e=>by simp [Ci,Jft,Jfu] at e)⟩,by simp [Rel,Kx,Ks,Jy],(fun t n k e=>by cases e),(fun t t' B hs=>by obtain ⟨_,_,_,_,e,_⟩:=hs; cases e)⟩
theorem Jo8 {P:Program} {ρ:Go.Shelf.Ren} {Gl:Nat→Option (List PV)} {f:FuncId} (L:Go.Proofs.LaysM.n171 P ρ) (hf:ρ.f 171=f) (hok:Jn4 P f) {g:Nat} (hg:P.globalNamed "internal/strconv.uint64pow10" = some g)
  (hgl:Gl g=some ((1::Lib.pow10Tab.tail).map fun x=>PV.int .u64 x)) {n:Int} (h0:-9223372036854775808≤n) (h1:n≤9223372036854775807):Km P Gl f [.int .i64 n] (.str ⟨(Lib.itoa n).toArray⟩):=by
 subst hf
 refine ⟨hok,fun S w vs _ hglob hargs=>?_⟩
 obtain ⟨v,vs',e,h2,h3⟩:=hargs.cons_left
 have h3:=h3.nil_left
 subst h3
 simp only [Jy] at h2
 subst h2
 have e:vs=#[.int .i64 n]:=by apply Array.ext'; rw [e]
 subst e
 have ht:Lib.TabIs P w "internal/strconv.uint64pow10" .u64 Lib.pow10Tab:=Jld hg (hglob _ _ hgl)
 refine (Go.Proofs.Any.strconv_Itoa L n h0 h1 w ht).mono ?_
 rintro e w' ⟨rfl,k,os,rfl⟩
 exact ⟨_,_,rfl,rfl,Jq7 _ (Jnp w k os)⟩
end PM
