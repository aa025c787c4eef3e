/-
 Plain laws, joined: LnkB LnkC AutA AutB AutC AutD AutE BodyB BodyC AutF.
-/
import Derived.Test.YtmklahiganfdmaaGreatDoorPlnA
/-
 PLAIN, LINKING B: the balises of a way: the program's and the reference's lists are the sorted list of the same balises.
-/
namespace PM
open Go Go.RowKit
/-! ### The balises of a way, in the order of the steps -/
def Jwy (k:Int) (s:Jd):Bool:=decide (k=1)||((decide (k=2)||decide (k=3))&&((decide (s.In=0)&&decide (s.Out=1))||(decide (s.In=1)&&decide (s.Out=0))))
theorem Jgd (k:Int) (s:Jd):Bz k s=some (Jwy k s):=by
 unfold Bz Jwy
 by_cases h1:k=1
 ·simp [h1]
 ·by_cases h2:k=2
  ·simp [h2,onInl,Vn]
  ·by_cases h3:k=3
   ·simp [h3,onInl,Vn]
   ·simp [h1,h2,h3,onInl,Vn]
def atE (e:Jw) (s:Jd) (B:Int) (b:Jt):Int:=if s.In=1 then B+e.Length - b.Offset else B+b.Offset
def Jzb (e:Jw) (s:Jd) (B:Int) (b:Jt):Jb:=⟨b.Id,atE e s B b⟩
def Tq (l:Je) (i:Int):List Jt:=l.Balises.filter fun b=>decide (b.El=i)
def Rg (en:Int) (e:Jw) (s:Jd) (B:Int) (L:List Jt):List Jb:=(L.map (Jzb e s B)).filter fun x=>decide (x.At≤en)
def Sr (l:Je) (en B:Int) (s:Jd):List Jb :=
 match l.Elements[s.El.toNat]? with
 | some e=>if Jwy e.Kind s=true then Rg en e s B (Tq l s.El) else []
 | none=>[]
def Cd (l:Je) (en:Int):Int→List Jd→List Jb
 | _,[]=>[]
 | B,s::w=>Sr l en B s++Cd l en (B+lenOf l s) w
theorem Ji3 (l:Je) (en:Int) (s:Jd):∀ (w:List Jd) (B:Int),Cd l en B (w++[s])=Cd l en B w++Sr l en (B+Ur l w) s
 | [],B=>by simp [Cd,Ur]
 | t::w,B=>by
  simp only [List.cons_append,Cd,Ji3 l en s w,List.append_assoc,Ur]
  rw [Int.add_assoc]
theorem Jn1 (en:Int) (e:Jw) (s:Jd) (B:Int) (L:List Jt):(Rg en e s B L).length≤L.length:=by
 unfold Rg
 exact Nat.le_trans (List.length_filter_le _ _) (by simp)
theorem Jwe (l:Je) (en B:Int) (s:Jd):(Sr l en B s).length≤l.Balises.length:=by
 unfold Sr
 split
 ·split
  ·exact Nat.le_trans (Jn1 _ _ _ _ _) (List.length_filter_le _ _)
  ·simp
 ·simp
theorem Jmk (l:Je) (en:Int):∀ (w:List Jd) (B:Int),(Cd l en B w).length≤w.length * l.Balises.length
 | [],_=>by simp [Cd]
 | s::w,B=>by
  have:=Jmk l en w (B+lenOf l s)
  have:=Jwe l en B s
  simp only [Cd,List.length_append,List.length_cons,Nat.succ_mul]; omega
theorem Jg9 {l:Je} {en B:Int} {s:Jd} {x:Jb} (h:x∈Sr l en B s):∃ e b,l.Elements[s.El.toNat]?=some e∧Jwy e.Kind s=true∧b∈l.Balises∧b.El=s.El∧x=Jzb e s B b∧x.At≤en:=by
 unfold Sr at h
 split at h
 ·rename_i e he
  split at h
  ·rename_i hp
   unfold Rg at h
   obtain ⟨h1,h2⟩:=List.mem_filter.1 h
   obtain ⟨b,hb,rfl⟩:=List.mem_map.1 h1
   obtain ⟨h3,h4⟩:=List.mem_filter.1 hb
   exact ⟨e,b,he,hp,h3,by simpa using h4,rfl,by simpa using h2⟩
  ·cases h
 ·cases h
theorem Jff {l:Je} {en:Int} {x:Jb}:∀ {w:List Jd} {B:Int},x∈Cd l en B w→∃ i s,w[i]?=some s∧x∈Sr l en (B+Ur l (w.take i)) s
 | [],_,h=>by cases h
 | s::w,B,h=>by
  simp only [Cd] at h
  rcases List.mem_append.1 h with h|h
  ·exact ⟨0,s,rfl,by simpa [Ur] using h⟩
  ·obtain ⟨i,t,h1,h2⟩:=Jff h
   exact ⟨i+1,t,by simpa using h1,by simpa [Ur,Int.add_assoc] using h2⟩
theorem Jns {α β:Type} {f:α→β}:∀ {l:List α},(l.map f).Nodup→∀ {x y:α},x∈l→y∈l→f x=f y→x=y
 | [],_,_,_,h,_,_=>by cases h
 | a::l,hn,x,y,hx,hy,e=>by
  simp only [List.map_cons,List.nodup_cons] at hn
  rcases List.mem_cons.1 hx with hxa|hx1
  ·rcases List.mem_cons.1 hy with hya|hy1
   ·rw [hxa,hya]
   ·exact absurd (List.mem_map.2 ⟨y,hy1,by rw [← e,hxa]⟩:f a∈l.map f) hn.1
  ·rcases List.mem_cons.1 hy with hya|hy1
   ·exact absurd (List.mem_map.2 ⟨x,hx1,by rw [e,hya]⟩:f a∈l.map f) hn.1
   ·exact Jns hn.2 hx1 hy1 e
theorem Jwu {l:Je} (hd:(l.Balises.map (·.Id)).Nodup) (en B:Int) (s:Jd):((Sr l en B s).map (·.Id)).Nodup:=by
 unfold Sr
 split
 ·rename_i e _
  split
  ·have h1:(((Tq l s.El).map (Jzb e s B)).map (·.Id))=(Tq l s.El).map (·.Id):=by
    rw [List.map_map]; rfl
   have h2:((Tq l s.El).map (·.Id)).Nodup:=hd.sublist ((List.filter_sublist).map _)
   rw [← h1] at h2
   exact h2.sublist ((List.filter_sublist).map _)
  ·exact List.nodup_nil
 ·exact List.nodup_nil
theorem Jlg {l:Je} (hd:(l.Balises.map (·.Id)).Nodup) (en:Int):∀ (w:List Jd) (B:Int),(w.map (·.El)).Nodup→((Cd l en B w).map (·.Id)).Nodup
 | [],_,_=>List.nodup_nil
 | s::w,B,hw=>by
  simp only [List.map_cons,List.nodup_cons] at hw
  simp only [Cd,List.map_append]
  rw [List.nodup_append]
  refine ⟨Jwu hd en B s,Jlg hd en w _ hw.2,fun a ha b hb e=>?_⟩
  subst e
  obtain ⟨x,hx,rfl⟩:=List.mem_map.1 ha
  obtain ⟨y,hy,hxy⟩:=List.mem_map.1 hb
  obtain ⟨e1,b1,_,_,k1,k2,rfl,_⟩:=Jg9 hx
  obtain ⟨i,t,ht,hyt⟩:=Jff hy
  obtain ⟨e2,b2,_,_,q1,q2,rfl,_⟩:=Jg9 hyt
  have:b2=b1:=Jns hd q1 k1 hxy
  subst this
  exact hw.1 (List.mem_map.2 ⟨t,List.mem_of_getElem? ht,q2.symm.trans k2⟩)
theorem Wi.els {l:Je} {way:List Jd} (h:Wi l way):(way.map (·.El)).Nodup:=by
 rw [List.nodup_iff_pairwise_ne,List.pairwise_map,List.pairwise_iff_getElem]
 intro i j hi hj hij e
 have:=h.apart (List.getElem?_eq_getElem hi) (List.getElem?_eq_getElem hj) e
 omega
theorem Jt5 {l:Je} (hO:OkL l) {way:List Jd} (hv:Wi l way) (en B:Int):(Cd l en B way).length≤24:=by
 have h1:=Jlg hO.bald en way B hv.els
 have h2:((Cd l en B way).map (·.Id)).length≤(l.Balises.map (·.Id)).length:=Jp8 h1 fun x hx=>by
  obtain ⟨y,hy,rfl⟩:=List.mem_map.1 hx
  obtain ⟨i,t,ht,hyt⟩:=Jff hy
  obtain ⟨e2,b2,_,_,q1,q2,rfl,_⟩:=Jg9 hyt
  exact List.mem_map.2 ⟨b2,q1,rfl⟩
 have:=hO.counts
 unfold Im at this
 simp only [List.length_map] at h2
 omega
/-! ### What a valid way in a valid layout has -/
theorem Jfo {l:Je} (hO:OkL l) {way:List Jd} (hv:Wi l way) {i:Nat} {s:Jd} (hs:way[i]?=some s) :
  ∃ e,ixO l.Elements s.El=some e∧l.Elements[s.El.toNat]?=some e∧Uv l s.El=true∧lenOf l s=e.Length∧Jk6 l e∧(Po e.Kind s.In s.Out).2=true:=by
 obtain ⟨t,ht,hp,_⟩:=hv.2.2 i (Uc hs)
 rw [hs] at ht; cases ht
 unfold Tu at hp
 cases hh:Uv l s.El with
 | false=>rw [hh] at hp; cases hp
 | true =>
  obtain ⟨x,h1,h2⟩:=Wf hh
  rw [hh,h2] at hp
  exact ⟨x,h1,h2,rfl,by simp [lenOf,hh,h2],hO.elem.1 x (List.mem_of_getElem? h2),hp⟩
theorem Je1 {l:Je} (hO:OkL l) {way:List Jd} (hv:Wi l way):∀ i,i≤way.length→0≤Ur l (way.take i)∧Ur l (way.take i)≤(i:Int) * 1000000:=by
 intro i
 induction i with
 | zero=>intro _; simp [Ur]
 | succ i ih =>
  intro hi
  have hs:way[i]?=some way[i]:=List.getElem?_eq_getElem (by omega)
  obtain ⟨e,_,_,_,h4,h5,_⟩:=Jfo hO hv hs
  have:=ih (by omega)
  rw [Vs hs,Fq]
  have h6:=h5.2.1
  simp only [Ur,Int.add_zero,h4]
  omega
/-! ### The program's list -/
theorem Jwt (fk:Jt→Int) (m:List (Int×List Jt)) (k:Int):(Zt k m).map (·.2)=Ez m k:=by
 induction m with
 | nil=>rfl
 | cons e es ih =>
  unfold Zt Ez
  simp only [List.find?_cons]
  by_cases h:k=e.1
  ·simp [h]
  ·simp only [h,if_false,decide_false]
   unfold Ez at ih
   rw [← ih,Option.map_map]; rfl
theorem Kas (fk:Jt→Int) (k:Int) (bs:List Jt):(Ez (grp fk bs) k).getD []=bs.filter fun b=>decide (fk b=k):=by
 suffices ∀ (bs:List Jt) (m:List (Int×List Jt)),(Ez (bs.foldl (fun m x=>Pa fk x m) m) k).getD []=(Ez m k).getD []++bs.filter fun b=>decide (fk b=k) by
  have:=this bs []
  simpa [grp,Jxi] using this
 intro bs
 induction bs with
 | nil=>intro m; simp
 | cons b bs ih =>
  intro m
  simp only [List.foldl_cons]
  rw [ih]
  have e:Ez (Pa fk b m) k=if k=fk b then some (((Ez m (fk b)).getD [])++[b]) else Ez m k:=by
   unfold Pa
   rw [Kcm,Jwt fk]
  rw [e]
  by_cases h:k=fk b
  ·subst h
   simp
  ·rw [if_neg h,List.filter_cons_of_neg (by simpa using fun q=>h q.symm)]
theorem Job {k k':Int} (h:k'≠k):∀ m:List (Int×List Jt),Ez (Jkz k m) k'=Ez m k'
 | []=>rfl
 | e::es=>by
  have ih:=Job h es
  unfold Jkz
  by_cases hk:k=e.1
  ·rw [if_pos hk]
   unfold Ez
   have:¬ k'=e.1:=fun q=>h (q.trans hk.symm)
   simp [List.find?_cons,this]
  ·rw [if_neg hk]
   unfold Ez at ih ⊢
   simp only [List.find?_cons]
   by_cases h2:k'=e.1
   ·simp [h2]
   ·simp only [h2,decide_false]
    exact ih
theorem Jm9 (en B:Int) (m:List (Int×List Jt)) (s:Jd) (e:Jw) (L:List Jt) (hm:(Ez m s.El).getD []=L) (hLl:L.length≤1000) (hB:-2147483648≤B∧B≤2147483648) (he:0≤e.Length∧e.Length≤1000000) (hoff:∀ b∈L,0≤b.Offset∧b.Offset≤1000000) (acc:List Jb) (hacc:acc.length≤10000) :
  Km (Ce en B m s e) (0,acc)=some (.inl (acc++Rg en e s B L)):=by
 suffices Is (Km (Ce en B m s e) (0,acc)) fun o=>o=.inl (acc++Rg en e s B L) by obtain ⟨o,h,rfl⟩:=this; exact h
 have hb:∀ i,(acc++Rg en e s B (L.take i)).length≤20000:=fun i=>by
  have:=Jn1 en e s B (L.take i)
  simp only [List.length_append,List.length_take] at *; omega
 refine Is.loop (mk:=fun (i:Nat) (x:List Jb)=>((i:Int),x)) L.length (fun i x=>x=acc++Rg en e s B (L.take i)) acc (by simp [Rg]) ?_ ?_
 ·rintro i x hi rfl
  have hx:L[i]?=some L[i]:=List.getElem?_eq_getElem hi
  have hof:=hoff L[i] (List.getElem_mem hi)
  unfold Ce
  simp only [hm]
  refine Is.inb hi ?_
  have hnext:Rg en e s B (L.take (i+1))=Rg en e s B (L.take i)++(if atE e s B L[i]≤en then [Jzb e s B L[i]] else []):=by
   unfold Rg
   rw [Fr hx,List.map_append,List.filter_append]
   congr 1
   by_cases hc:atE e s B L[i]≤en <;> simp [hc,Jzb]
  refine Is.onInl (θ:=fun o=>o=.inl (acc++Rg en e s B (L.take (i+1)))) ?_ (fun v hv=>Is.val ⟨acc++Rg en e s B (L.take (i+1)),by cases hv; rw [Gx (by omega)],rfl⟩) (fun b hb=>by cases hb)
  refine Is.at hx ?_
  have hat:(bif decide (s.In=1) then some (.inl (w64 ((w64 (B+e.Length)) - L[i].Offset))) else some (.inl (w64 (B+L[i].Offset))):Option (Int⊕(List Jb⊕((Int×List Jb)⊕(List Jb⊕((List Jb×List (Int×List Jt))⊕((Int×Int×List (Int×List Jt)×List Jb)⊕(List Jb⊕List Jb))))))))=some (.inl (atE e s B L[i])):=by
   unfold atE
   by_cases h1:s.In=1
   ·rw [decide_eq_true h1,cond_true,if_pos h1,Va (n:=B+e.Length) (by omega) (by omega),Va (by omega) (by omega)]
   ·rw [decide_eq_false h1,cond_false,if_neg h1,Va (by omega) (by omega)]
  rw [hat]
  simp only [onInl,Vn,Option.bind_some]
  rw [hnext]
  refine Is.ite (p:=atE e s B L[i]≤en) Vb (fun hc=>?_) (fun hc=>Is.val ?_)
  ·rw [if_pos hc]
   refine Is.bind (Is.app ?_) fun M hM=>Is.val ?_
   ·have:=hb i
    simp only [List.length_cons,List.length_nil,Kn,Enc.b]; omega
   ·rw [hM,List.append_assoc]; rfl
  ·rw [if_neg hc,List.append_nil]
 ·rintro x rfl
  unfold Ce
  simp only [hm]
  refine Is.oub (Is.val ?_)
  rw [List.take_length]
theorem Jnb {l:Je} (h:Sm l) (hO:OkL l) {way:List Jd} (hv:Wi l way) {o:Int} (ho:-1073741824≤o∧o≤1073741824) (en:Int) :
  ∃ M,Lp l way o en=some M∧M.Perm (Cd l en o way)∧M.Pairwise leL:=by
 have hw:=hv.2.1
 have hbl:l.Balises.length≤24:=by have:=hO.counts; unfold Im at this; omega
 obtain ⟨r,hr,hri⟩:=Tz l way h.jo (by omega)
 unfold Lp
 rw [hr,hri.2 hv]
 have hgo:Jk2 (fun (x:Jt)=>x.El) l.Balises=some (grp (fun (x:Jt)=>x.El) l.Balises):=by
  unfold Jk2
  rw [if_pos ⟨by omega,by decide⟩]
 simp only [Option.bind_some,Bool.not_true,cond_false,hgo]
 have hloop:Is (Km (Fi l way en) (o,0,grp (fun (x:Jt)=>x.El) l.Balises,([]:List Jb))) fun q=>q=.inl (Cd l en o way):=by
  refine Is.loop (mk:=fun (i:Nat) (x:Int×List (Int×List Jt)×List Jb)=>(x.1,(i:Int),x.2.1,x.2.2)) way.length
   (fun i x=>x.1=o+Ur l (way.take i)∧(∀ j s,i≤j→way[j]?=some s→(Ez x.2.1 s.El).getD []=Tq l s.El)∧x.2.2=Cd l en o (way.take i)) (o,grp (fun (x:Jt)=>x.El) l.Balises,[]) ⟨by simp [Ur],fun j s _ _=>Kas _ _ _,by simp [Cd]⟩ ?_ ?_
  ·rintro i ⟨B,m,acc⟩ hi ⟨hB,hm,hacc⟩
   simp only at hB hm hacc
   have hs:way[i]?=some way[i]:=List.getElem?_eq_getElem hi
   obtain ⟨e,e1,e2,e3,e4,e5,e6⟩:=Jfo hO hv hs
   have hsum:=Je1 hO hv i (by omega)
   have hlen:=e5.2.1
   have hBb:-2147483648≤B∧B≤2147483648:=by omega
   have hal:acc.length≤10000:=by
    have:=Jmk l en (way.take i) o
    rw [hacc]
    refine Nat.le_trans this ?_
    have:(way.take i).length * l.Balises.length≤64 * 24:=Nat.mul_le_mul (by simp; omega) hbl
    omega
   have hnB:o+Ur l (way.take (i+1))=B+e.Length:=by
    rw [Vs hs,Fq]
    simp only [Ur,Int.add_zero,e4]; omega
   unfold Fi
   refine Is.inb hi (Is.at hs ?_)
   have hel:(decide (way[i].El<0))=false∧(decide (((l.Elements.length:Nat):Int)≤way[i].El))=false:=by
    unfold Uv at e3
    simp only [Bool.and_eq_true,decide_eq_true_eq] at e3
    exact ⟨decide_eq_false (by omega),decide_eq_false (by omega)⟩
   rw [hel.1,hel.2]
   simp only [cond_false,Option.bind_some,e1,Jgd]
   have hstep:Sr l en B way[i]=if Jwy e.Kind way[i]=true then Rg en e way[i] B (Tq l way[i].El) else []:=by
    unfold Sr; rw [e2]
   have hoff:∀ b∈Tq l way[i].El,0≤b.Offset∧b.Offset≤1000000:=fun b hb=>by
    obtain ⟨q1,q2⟩:=List.mem_filter.1 hb
    have q2:b.El=way[i].El:=by simpa using q2
    obtain ⟨_,_,_,k1,k2⟩:=hO.bal b q1
    rw [q2] at k2
    unfold Jd1 at k2
    rw [e2] at k2
    simp only [Option.map_some,Option.getD_some] at k2
    exact ⟨k1,by omega⟩
   have hlk:Cd l en o (way.take (i+1))=acc++Sr l en B way[i]:=by
    rw [Vs hs,Ji3,← hacc,← hB]
   refine Is.onInl (θ:=fun q=>∃ m',q=.inl (acc++Sr l en B way[i],m')∧∀ j s,i+1≤j→way[j]?=some s→(Ez m' s.El).getD []=Tq l s.El) ?_ ?_ (fun b hb=>by obtain ⟨m',hb,_⟩:=hb; cases hb)
   ·cases hp:Jwy e.Kind way[i] with
    | true =>
     rw [hp,if_pos rfl] at hstep
     simp only [cond_true]
     rw [Jm9 en B m way[i] e (Tq l way[i].El) (hm i way[i] (Nat.le_refl _) hs) (by have:=List.length_filter_le (fun b:Jt=>decide (b.El=way[i].El)) l.Balises; unfold Tq; omega) hBb ⟨by omega,by omega⟩ hoff acc hal,← hstep]
     simp only [onInl,Vn,Option.bind_some]
     refine Is.val ⟨_,rfl,fun j s hj hjs=>?_⟩
     rw [Job (fun q=>?_)]
     ·exact hm j s (by omega) hjs
     ·have:=hv.apart hjs hs q; omega
    | false =>
     rw [hp] at hstep
     simp only [cond_false]
     refine Is.val ⟨m, ?_,fun j s hj hjs=>hm j s (by omega) hjs⟩
     rw [hstep]; simp
   ·rintro ⟨v1,v2⟩ ⟨m',hvv,hm'⟩
    cases hvv
    refine Is.val ⟨(w64 (B+e.Length),v2,acc++Sr l en B way[i]),by rw [Gx (by omega)], ?_,hm', ?_⟩
    ·show w64 (B+e.Length)=_
     rw [Va (by omega) (by omega),hnB]
    ·exact hlk.symm
  ·rintro ⟨B,m,acc⟩ ⟨hB,hm,hacc⟩
   simp only at hacc
   unfold Fi
   refine Is.oub (Is.val ?_)
   rw [hacc,List.take_length]
 obtain ⟨q,hq,rfl⟩:=hloop
 obtain ⟨M,m1,m2,m3⟩:=Jna (Cd l en o way) (by have:=Jt5 hO hv en o; omega)
 refine ⟨M, ?_,m2,m3⟩
 rw [hq]
 simp only [onInl,Vn,Option.bind_some,m1]
end PM
/-
 PLAIN, LINKING C: the reference's list of the balises of a way; the laws of Of, Order and Reverse.
-/
namespace PM
open Go Go.RowKit
/-! ### The opposite direction -/
end PM
/-
 PLAIN, AUTHORITY A: profiles, linked balises, authorities: Valid, At, Same, Extends, as the program and the reference have them.
-/
namespace PM
open Go Go.RowKit
/-! ### Profiles -/
def Sp (x:Jf):Prop:=-1073741824≤x.From∧x.From<x.To∧x.To≤1073741824 ∧ -50≤x.Grade∧x.Grade≤50∧1≤x.Speed∧x.Speed≤10000
def Ka0 (p:List Jf) (i:Nat) (x:Jf):Prop:=Sp x∧∀ y,0<i→p[i - 1]?=some y→x.From=y.To
def Cp (p:List Jf):Prop:=p.length≤128∧∀ i x,p[i]?=some x→Ka0 p i x
theorem Yu (p:List Jf):Is (Uz p) fun b=>b=true↔Cp p:=by
 unfold Uz
 refine Is.ite (p:=128<p.length) (by rw [decide_eq_true_iff]; omega) (fun h=>Is.val (iff_of_false Bool.false_ne_true fun q=>absurd q.1 (by omega))) (fun h=>?_)
 refine Is.all (L:=p) (fun i x=>Ka0 p i x) () (by omega) (fun i x hx hi _=>?_) (by simp [Em]) (fun hn=>Is.val (iff_of_true rfl ⟨by omega,hn⟩))
 unfold Em
 refine Is.inb hi (Is.at hx ?_)
 simp only [Vh,Option.bind_some,Jel,Bool.cond_true_left]
 refine Is.ite (p:=¬ Sp x) (by unfold Sp; simp only [Bool.or_eq_true,Bool.not_eq_true',Bool.and_eq_false_iff,decide_eq_false_iff_not,decide_eq_true_eq]; omega) (fun hb=>Is.val (iff_of_false Bool.false_ne_true fun q=>hb (q.2 i x hx).1)) (fun hb=>?_)
 refine Is.bind (Jvr hi (by omega) (f:=fun y => !(decide (x.From=y.To))) (q:=fun y=>x.From=y.To) fun y=>by simp) fun b hb2=>?_
 rw [← Jel]
 refine Is.ite hb2 (fun hc=>?_) (fun hc=>?_)
 ·exact Is.val (iff_of_false Bool.false_ne_true fun q=>hc (q.2 i x hx).2)
 ·exact Is.val ⟨rfl,Classical.not_not.1 hb,Classical.not_not.1 hc⟩
/-! ### Authorities -/
def Jgn (a:Kk):Prop:=((1≤a.Seq∧a.Seq≤1073741824)∧Cp a.Profile)∧(∃ y,a.Profile[a.Profile.length - 1]?=some y∧y.To=a.End)∧LVal a.Links
theorem Ka4 {a:Kk} (h:a.Profile.length≤1048576) {b:Bool} {p:Prop} (hb:b=true↔p) :
  Is (bif (b&&(decide (0<((a.Profile.length:Nat):Int)))) then (ixO a.Profile (w64 (((a.Profile.length:Nat):Int) - 1))).bind fun x4=>some (decide (x4.To=a.End)) else some false) fun c=>c=true↔p∧∃ y,a.Profile[a.Profile.length - 1]?=some y∧y.To=a.End:=by
 refine (Is.and (p:=p∧0<a.Profile.length) (q:=∃ y,a.Profile[a.Profile.length - 1]?=some y∧y.To=a.End) (by rw [Bool.and_eq_true,hb,decide_eq_true_iff]; exact and_congr_right fun _=>by omega) fun hp=>?_).iff ?_
 ·have hg:a.Profile[a.Profile.length - 1]?=some a.Profile[a.Profile.length - 1]:=List.getElem?_eq_getElem (by omega)
  rw [Va (by omega) (by omega),show ((a.Profile.length:Nat):Int) - 1=((a.Profile.length - 1:Nat):Int) by omega,Wk hg]
  refine Is.dec ⟨fun e=>⟨_,hg,e⟩,fun ⟨y,hy,e⟩=>by rw [hg] at hy; cases hy; exact e⟩
 ·refine ⟨fun q=>⟨q.1.1,q.2⟩,fun q=>⟨⟨q.1, ?_⟩,q.2⟩⟩
  obtain ⟨y,hy,_⟩:=q.2
  have:=(List.getElem?_eq_some_iff.1 hy).1; omega
theorem Iu {a:Kk} (h:a.Profile.length≤1048576):Is (Vo a) fun b=>b=true↔Jgn a:=by
 unfold Vo
 simp only [Jqa]
 refine Is.bind (Is.and (p:=1≤a.Seq∧a.Seq≤1073741824) (q:=Cp a.Profile) (by simp) fun _=>Yu _) fun b hb=>?_
 refine Is.bind (Ka4 h hb) fun c hc=>?_
 exact (Is.and hc fun _=>Jgv a.Links).iff ⟨fun q=>⟨q.1.1,q.1.2,q.2⟩,fun q=>⟨⟨q.1,q.2.1⟩,q.2.2⟩⟩
/-! ### Equal lists -/
/-! ### The segment at a coordinate -/
def atB (x:Int) (s:Jf):Bool:=decide (s.From≤x)&&decide (x<s.To)
def AtS (p:List Jf) (x:Int):Jf×Bool:=match p.find? (atB x) with|some s=>(s,true)|none=>(⟨0,0,0,0⟩,false)
theorem Jd8 {p:List Jf} (h:Cp p) (x:Int):Gq p x=some (AtS p x):=by
 unfold Gq AtS
 obtain ⟨b,h1,h2⟩:=Yu p
 rw [h1,h2.2 h]
 simp only [Option.bind_some,Bool.not_true,cond_false]
 have:=h.1
 rw [Pz (atB x) (fun s=>.inr (s,true)) (.inl ()) p (by omega)]
 ·cases p.find? (atB x) <;> rfl
 ·intro i y hy
  have hi:=Uc hy
  simp only [Mz,Wk hy,show decide ((i:Int)<((p.length:Nat):Int))=true by simp; omega,cond_true,Option.bind_some]
  rfl
 ·simp [Mz]
theorem Cp.step {p:List Jf} (h:Cp p) {i:Nat} {x y:Jf} (hx:p[i]?=some x) (hy:p[i+1]?=some y):y.From=x.To:=(h.2 (i+1) y hy).2 x (by omega) (by simpa using hx)
theorem Cp.ok {p:List Jf} (h:Cp p) {i:Nat} {x:Jf} (hx:p[i]?=some x):Sp x:=(h.2 i x hx).1
/-- Segments lie one behind the other. -/
theorem Cp.before {p:List Jf} (h:Cp p) {i:Nat} {x:Jf} (hx:p[i]?=some x):∀ {j:Nat} {y:Jf},p[j]?=some y→i<j→x.To≤y.From:=by
 intro j
 induction j with
 | zero=>intro y _ hij; omega
 | succ j ih =>
  intro y hy hij
  have hj:j<p.length:=by have:=Uc hy; omega
  have hz:p[j]?=some p[j]:=List.getElem?_eq_getElem hj
  have e:=h.step hz hy
  by_cases hji:i=j
  ·subst hji; rw [hx] at hz; cases hz; omega
  ·have:=ih hz (by omega); have:=(h.ok hz).2.1; omega
/-- The segment at a coordinate is the one that holds it. -/
theorem Cp.at {p:List Jf} (h:Cp p) {s:Jf} (hs:s∈p) {x:Int} (h1:s.From≤x) (h2:x<s.To):AtS p x=(s,true):=by
 unfold AtS
 have hb:atB x s=true:=by simp [atB,h1,h2]
 cases hf:p.find? (atB x) with
 | none=>exact absurd hb (by have:=List.find?_eq_none.1 hf s hs; simpa using this)
 | some t =>
  have ht:=List.find?_some hf
  have hm:=List.mem_of_find?_eq_some hf
  obtain ⟨i,hi⟩:=List.getElem?_of_mem hs
  obtain ⟨j,hj⟩:=List.getElem?_of_mem hm
  simp only [atB,Bool.and_eq_true,decide_eq_true_eq] at ht
  have:i=j:=by
   rcases Nat.lt_trichotomy i j with q|q|q
   ·have:=h.before hi hj q; omega
   ·exact q
   ·have:=h.before hj hi q; omega
  subst this; rw [hi] at hj; cases hj; rfl
/-- Between its ends a profile has a segment everywhere. -/
theorem Cp.ex {p:List Jf} (h:Cp p) {f l:Jf} (hf:p[0]?=some f) (hl:p[p.length - 1]?=some l) {x:Int} (h1:f.From≤x) (h2:x<l.To):∃ s∈p,s.From≤x∧x<s.To:=by
 suffices ∀ (i:Nat) y,p[i]?=some y→x<y.To→∃ s∈p,s.From≤x∧x<s.To from this _ l hl h2
 intro i
 induction i with
 | zero=>intro y hy hlt; rw [hf] at hy; cases hy; exact ⟨f,List.mem_of_getElem? hf,h1,hlt⟩
 | succ i ih =>
  intro y hy hlt
  by_cases hc:y.From≤x
  ·exact ⟨y,List.mem_of_getElem? hy,hc,hlt⟩
  ·have hi:i<p.length:=by have:=Uc hy; omega
   have hz:p[i]?=some p[i]:=List.getElem?_eq_getElem hi
   exact ih p[i] hz (by have:=h.step hz hy; omega)
/-! ### Extends -/
theorem Jgn.first {a:Kk} (h:Jgn a):∃ f l,a.Profile[0]?=some f∧a.Profile[a.Profile.length - 1]?=some l∧l.To=a.End∧0<a.Profile.length:=by
 obtain ⟨_,⟨y,hy,e⟩,_⟩:=h
 have:=Uc hy
 exact ⟨_,y,List.getElem?_eq_getElem (by omega),hy,e,by omega⟩
/-- What one round of the comparison does. -/
def Jc6 (a b:Kk) (x:Int):Option (Int⊕(Unit⊕Bool)) :=
 bif decide (x<a.End) then (
  let s:=(AtS a.Profile x).1; let t:=(AtS b.Profile x).1
  bif !(decide (s.Grade=t.Grade)) || !(decide (s.Speed=t.Speed)) then some (.inr (.inr false)) else some (.inl (min s.To t.To)))
 else some (.inr (.inl ()))
theorem Jti {a b:Kk} (ha:Jgn a) (hb:Jgn b) (he:a.End≤b.End) {f g:Jf} (hf:a.Profile[0]?=some f) (hg:b.Profile[0]?=some g) {x:Int} (hx:max f.From g.From≤x) (hlt:x<a.End) :
  ∃ s∈a.Profile,∃ t∈b.Profile,AtS a.Profile x=(s,true)∧AtS b.Profile x=(t,true)∧(s.From≤x∧x<s.To)∧(t.From≤x∧x<t.To):=by
 obtain ⟨f',l,h1,h2,h3,_⟩:=ha.first
 rw [hf] at h1; cases h1
 obtain ⟨g',m,k1,k2,k3,_⟩:=hb.first
 rw [hg] at k1; cases k1
 obtain ⟨s,s1,s2⟩:=ha.1.2.ex hf h2 (x:=x) (by omega) (by omega)
 obtain ⟨t,t1,t2⟩:=hb.1.2.ex hg k2 (x:=x) (by omega) (by omega)
 exact ⟨s,s1,t,t1,ha.1.2.at s1 s2.1 s2.2,hb.1.2.at t1 t2.1 t2.2,s2,t2⟩
noncomputable def Kc1 (a b:Kk) (x:Int):Option Bool:=onInl (α:=Unit) (β:=Bool) (Km (Jc6 a b) x) fun _=>some true
/-- The comparison ends; where it says yes, both have the same speeds and gradients all along. -/
theorem Kbi {a b:Kk} (ha:Jgn a) (hb:Jgn b) (he:a.End≤b.End) {f g:Jf} (hf:a.Profile[0]?=some f) (hg:b.Profile[0]?=some g) :
  Is (Kc1 a b (max f.From g.From)) fun r=>r=true↔∀ x,max f.From g.From≤x→x<a.End→(AtS a.Profile x).1.Grade=(AtS b.Profile x).1.Grade∧(AtS a.Profile x).1.Speed=(AtS b.Profile x).1.Speed:=by
 unfold Kc1
 refine Is.onInl (θ:=fun o=>match o with|.inl _=>(∀ x,max f.From g.From≤x→x<a.End→(AtS a.Profile x).1.Grade=(AtS b.Profile x).1.Grade∧(AtS a.Profile x).1.Speed=(AtS b.Profile x).1.Speed)|.inr r=>r=false∧¬ (∀ x,max f.From g.From≤x→x<a.End→(AtS a.Profile x).1.Grade=(AtS b.Profile x).1.Grade∧(AtS a.Profile x).1.Speed=(AtS b.Profile x).1.Speed)) ?_ (fun _ hv=>Is.val (iff_of_true rfl hv)) (fun r hr=>iff_of_false (by rw [hr.1]; exact Bool.false_ne_true) hr.2)
 refine Is.wf (fun x=>max f.From g.From≤x∧∀ y,max f.From g.From≤y→y<x→y<a.End→(AtS a.Profile y).1.Grade=(AtS b.Profile y).1.Grade∧(AtS a.Profile y).1.Speed=(AtS b.Profile y).1.Speed) (fun x=>(a.End - x).toNat) (fun x hx=>?_) _ _ (Nat.le_refl _) ⟨Int.le_refl _,fun y h1 h2=>by omega⟩
 unfold Jc6
 by_cases hlt:x<a.End
 ·obtain ⟨s,s1,t,t1,e1,e2,e3,e4⟩:=Jti ha hb he hf hg hx.1 hlt
  rw [decide_eq_true hlt,cond_true,e1,e2]
  dsimp only
  refine Is.ite (p:=¬ (s.Grade=t.Grade∧s.Speed=t.Speed)) (by simp only [Bool.or_eq_true,Bool.not_eq_true',decide_eq_false_iff_not]; rw [Classical.not_and_iff_not_or_not]) (fun hn=>Is.val ⟨rfl,fun q=>hn ?_⟩) (fun hn=>Is.val ?_)
  ·have:=q x hx.1 hlt
   rw [e1,e2] at this; exact this
  ·have hn:=Classical.not_not.1 hn
   refine ⟨⟨by omega,fun y h1 h2 h3=>?_⟩,by omega⟩
   by_cases hyx:y<x
   ·exact hx.2 y h1 hyx h3
   ·rw [ha.1.2.at s1 (x:=y) (by omega) (by omega),hb.1.2.at t1 (x:=y) (by omega) (by omega)]; exact hn
 ·rw [decide_eq_false hlt,cond_false]
  exact Is.val fun y h1 h2=>hx.2 y h1 (by omega) h2
/-! ### The law -/
theorem Jby : Yb=some true:=by kernel_rfl
end PM
/-
 PLAIN, AUTHORITY B: a profile that is cut, and the law of parts.
-/
namespace PM
open Go Go.RowKit
/-! ### Profiles as rows of segments -/
def Za : Int→List Jf→Int→Prop
 | a,[],b=>a=b
 | a,s::p,b=>s.From=a∧Sp s∧Za s.To p b
theorem Za.get : ∀ {p:List Jf} {a b:Int},Za a p b→∀ {i:Nat} {x:Jf},p[i]?=some x→Ka0 p i x
 | [],_,_,_,i,x,h=>by simp at h
 | s::p,a,b,hc,0,x,h=>by
  simp at h; subst h
  exact ⟨hc.2.1,fun y h0=>by omega⟩
 | s::p,a,b,hc,i+1,x,h=>by
  have h':p[i]?=some x:=by simpa using h
  obtain ⟨h1,h2⟩:=Za.get hc.2.2 h'
  refine ⟨h1,fun y _ hy=>?_⟩
  rw [Nat.add_sub_cancel] at hy
  cases i with
  | zero =>
   simp at hy; subst hy
   cases p with
   | nil=>simp at h'
   | cons u p=>simp at h'; subst h'; exact hc.2.2.1
  | succ i=>exact h2 y (by omega) (by simpa using hy)
theorem Jvf : ∀ {p:List Jf},(∀ i x,p[i]?=some x→Ka0 p i x)→∀ {f l:Jf},p[0]?=some f→p[p.length - 1]?=some l→Za f.From p l.To
 | [],_,f,l,hf,_=>by simp at hf
 | [s],h,f,l,hf,hl=>by
  simp at hf hl; subst hf; subst hl
  exact ⟨rfl,(h 0 _ rfl).1,rfl⟩
 | s::u::p,h,f,l,hf,hl=>by
  simp at hf; subst hf
  have h1:=(h 1 u rfl).2 s (by omega) rfl
  have ih:=Jvf (p:=u::p) (fun i x hx=>by
   obtain ⟨q1,q2⟩:=h (i+1) x (by simpa using hx)
   refine ⟨q1,fun y h0 hy=>q2 y (by omega) ?_⟩
   rw [Nat.add_sub_cancel]
   obtain ⟨j,rfl⟩:=Nat.exists_eq_succ_of_ne_zero (Nat.pos_iff_ne_zero.1 h0)
   simpa using hy) (f:=u) (l:=l) rfl (by simpa using hl)
  exact ⟨rfl,(h 0 s rfl).1,by rw [← h1]; exact ih⟩
/-! ### A profile that is cut -/
def Eg (f t:Int) (s:Jf):Jf:=⟨max s.From f,min s.To t,s.Grade,s.Speed⟩
def Iv (p:List Jf) (f t:Int):List Jf:=(p.filter fun s=>decide (max s.From f<min s.To t)).map (Eg f t)
theorem Jmb {p:List Jf} (h:Cp p) (f t:Int):Yt p f t=some (Iv p f t):=by
 suffices Is (Yt p f t) fun r=>r=Iv p f t by obtain ⟨r,h,rfl⟩:=this; exact h
 unfold Yt
 obtain ⟨b,h1,h2⟩:=Yu p
 rw [h1,h2.2 h]
 have hl:=h.1
 have hlen:∀ i,(Iv (p.take i) f t).length≤i:=fun i=>by
  unfold Iv
  rw [List.length_map]
  exact Nat.le_trans (List.length_filter_le _ _) (by simp; omega)
 simp only [Option.bind_some,Bool.not_true,cond_false]
 refine Is.fold (L:=p) (mk:=fun i (m:List Jf)=>(i,m)) (fun i m=>m=Iv (p.take i) f t) [] (by omega) rfl (fun i x m hx hi hI=>?_) (fun m hI=>?_)
 ·subst hI
  unfold Ii
  refine Is.inb hi ?_
  refine Is.onInl (θ:=fun o=>o=.inl (Iv (p.take (i+1)) f t)) (Is.at hx ?_) (fun v hv=>Is.val ⟨Iv (p.take (i+1)) f t,by cases hv; rfl,rfl⟩) (fun b hb=>by cases hb)
  have ht:Iv (p.take (i+1)) f t=Iv (p.take i) f t++(if max x.From f<min x.To t then [Eg f t x] else []):=by
   rw [Fr hx]
   unfold Iv
   rw [List.filter_append,List.map_append]
   congr 1
   by_cases hc:max x.From f<min x.To t <;> simp [hc]
  simp only [Wp,Option.bind_some]
  refine Is.ite (p:=max x.From f<min x.To t) Vb (fun hb=>?_) (fun hb=>Is.val ?_)
  ·rw [if_pos hb] at ht
   refine Is.bind (Is.app ?_) fun M hM=>Is.val ?_
   ·have:=hlen i
    simp only [List.length_cons,List.length_nil,Kn,Enc.b]; omega
   ·rw [hM,ht]; rfl
  ·rw [ht,if_neg hb,List.append_nil]
 ·subst hI
  unfold Ii
  refine Is.oub (Is.val ?_)
  rw [List.take_length]
  exact Is.val rfl
theorem Za.cut0 {f t:Int}:∀ {p:List Jf} {a b:Int},Za a p b→t≤a→Iv p f t=[]
 | [],_,_,_,_=>rfl
 | s::p,a,b,hc,ht=>by
  have h1:=hc.1; have h2:=hc.2.1.2.1
  have ih:=Za.cut0 (f:=f) (t:=t) hc.2.2 (by omega)
  unfold Iv at ih ⊢
  rw [List.filter_cons,if_neg (show ¬ (decide (max s.From f<min s.To t)=true) by rw [decide_eq_true_iff]; omega)]
  exact ih
theorem Za.cut {f t:Int}:∀ {p:List Jf} {a b:Int},Za a p b→f≤a→a<t→t≤b→Za a (Iv p f t) t
 | [],a,b,hc,_,h1,h2=>by
  have:a=b:=hc
  omega
 | s::p,a,b,hc,hf,h1,h2=>by
  obtain ⟨e,ok,hr⟩:=hc
  have ok':=ok
  unfold Sp at ok'
  have hk:decide (max s.From f<min s.To t)=true:=decide_eq_true (by omega)
  have hcut:Iv (s::p) f t=Eg f t s::Iv p f t:=by
   unfold Iv; rw [List.filter_cons,if_pos hk]; rfl
  rw [hcut]
  by_cases ht:t≤s.To
  ·rw [hr.cut0 ht]
   refine ⟨by simp only [Eg]; omega,by unfold Sp; simp only [Eg]; omega, ?_⟩
   show (Eg f t s).To=t
   simp only [Eg]; omega
  ·refine ⟨by simp only [Eg]; omega,by unfold Sp; simp only [Eg]; omega, ?_⟩
   have e2:(Eg f t s).To=s.To:=by simp only [Eg]; omega
   rw [e2]
   exact Za.cut hr (by omega) (by omega) h2
/-! ### Below -/
end PM
/-
 PLAIN, AUTHORITY C: the profile of a way, restrictions: what the program and the reference compute.
-/
namespace PM
open Go Go.RowKit
/-! ### The profile of a way -/
def Kc2 (e:Jw) (s:Jd):Int:=if s.In=0∨(s.In=2∧e.Kind=3) then e.Grade else -e.Grade
def Kd3 (e:Jw) (s:Jd):Int:=if e.Kind=2∧(s.In=2∨s.Out=2) then e.Slow else e.Speed
def Jxh (e:Jw) (s:Jd) (B:Int):Jf:=⟨B,B+e.Length,Kc2 e s,Kd3 e s⟩
def Jie (l:Je) (B:Int) (s:Jd):List Jf :=
 match l.Elements[s.El.toNat]? with
 | some e=>[Jxh e s B]
 | none=>[]
def ofS (l:Je):Int→List Jd→List Jf
 | _,[]=>[]
 | B,s::w=>Jie l B s++ofS l (B+lenOf l s) w
theorem Jq6 (l:Je) (s:Jd):∀ (w:List Jd) (B:Int),ofS l B (w++[s])=ofS l B w++Jie l (B+Ur l w) s
 | [],B=>by simp [ofS,Ur]
 | t::w,B=>by
  simp only [List.cons_append,ofS,Jq6 l s w,List.append_assoc,Ur]
  rw [Int.add_assoc]
theorem Jw6 (l:Je) (B:Int) (s:Jd):(Jie l B s).length≤1:=by
 unfold Jie; split <;> simp
theorem Jvg (l:Je):∀ (w:List Jd) (B:Int),(ofS l B w).length≤w.length
 | [],_=>by simp [ofS]
 | s::w,B=>by
  have h1:=Jw6 l B s
  have h2:=Jvg l w (B+lenOf l s)
  simp only [ofS,List.length_append,List.length_cons]; omega
open Classical in
noncomputable def ofP (l:Je) (o:Int) (w:List Jd):List Jf:=if Cp (ofS l o w) then ofS l o w else []
theorem Jqv : Cp []:=⟨by simp,fun i x h=>by simp at h⟩
theorem Jj1 (l:Je) (o:Int) (w:List Jd):Cp (ofP l o w):=by
 unfold ofP; split
 ·assumption
 ·exact Jqv
theorem Ju4 {l:Je} {s:Jd} {e:Jw} (he:l.Elements[s.El.toNat]?=some e):∀ {w:List Jd} {B:Int} {i:Nat},w[i]?=some s→Jxh e s (B+Ur l (w.take i))∈ofS l B w
 | [],_,i,h=>by simp at h
 | t::w,B,0,h=>by
  simp at h; subst h
  simp [ofS,Jie,he,Ur]
 | t::w,B,i+1,h=>by
  have:=Ju4 he (w:=w) (B:=B+lenOf l t) (i:=i) (by simpa using h)
  simp only [ofS,List.take_succ_cons,Ur,List.mem_append]
  rw [Int.add_assoc] at this
  exact .inr this
/-- A valid way has one segment for each step. -/
theorem Jqx {l:Je}:∀ {w:List Jd} {B:Int},(∀ s∈w,∃ e,l.Elements[s.El.toNat]?=some e∧lenOf l s=e.Length)→Cp (ofS l B w)→Za B (ofS l B w) (B+Ur l w)
 | [],B,_,_=>by simp [ofS,Za,Ur]
 | s::w,B,hw,hp=>by
  obtain ⟨e,h1,h2⟩:=hw s (by simp)
  have hs:Jie l B s=[Jxh e s B]:=by simp [Jie,h1]
  simp only [ofS,hs,Ur] at hp ⊢
  refine ⟨rfl,(hp.2 0 _ rfl).1, ?_⟩
  have hp':Cp (ofS l (B+lenOf l s) w):=by
   refine ⟨by have:=hp.1; simp only [List.cons_append,List.nil_append,List.length_cons] at this; omega,fun i x hx=>?_⟩
   obtain ⟨q1,q2⟩:=hp.2 (i+1) x (by simpa using hx)
   refine ⟨q1,fun y h0 hy=>q2 y (by omega) ?_⟩
   rw [Nat.add_sub_cancel]
   obtain ⟨j,rfl⟩:=Nat.exists_eq_succ_of_ne_zero (Nat.pos_iff_ne_zero.1 h0)
   simpa using hy
  have:=Jqx (fun t ht=>hw t (by simp [ht])) hp'
  rw [Int.add_assoc] at this
  show Za (B+e.Length) _ _
  rw [← h2]; exact this
/-! ### A limit -/
def Jdw (f t sp:Int) (s:Jf):List Jf :=
 if max s.From f<min s.To t then Iv [s] (-1073741824) f++(⟨max s.From f,min s.To t,s.Grade,min s.Speed sp⟩::Iv [s] t 1073741824) else [s]
def Xp (p:List Jf) (f t sp:Int):List Jf:=p.flatMap (Jdw f t sp)
open Classical in
noncomputable def Lim (p:List Jf) (f t sp:Int):List Jf:=if Cp p∧1≤sp∧(Xp p f t sp).length≤128 then Xp p f t sp else []
theorem Hm (s:Jf) (f t:Int):Iv [s] f t=if max s.From f<min s.To t then [Eg f t s] else []:=by
 unfold Iv; by_cases h:max s.From f<min s.To t <;> simp [h]
theorem Jz0 (f t sp:Int) (s:Jf):1≤(Jdw f t sp s).length∧(Jdw f t sp s).length≤3:=by
 unfold Jdw
 rw [Hm,Hm]
 split
 ·split <;> split <;> simp
 ·simp
theorem Jwb (p:List Jf) (s:Jf) (f t sp:Int):Xp (p++[s]) f t sp=Xp p f t sp++Jdw f t sp s:=by simp [Xp]
theorem Jsu (f t sp:Int):∀ p:List Jf,p.length≤(Xp p f t sp).length∧(Xp p f t sp).length≤3 * p.length
 | []=>by simp [Xp]
 | s::p=>by
  have h1:=Jz0 f t sp s
  have h2:=Jsu f t sp p
  simp only [Xp,List.flatMap_cons,List.length_append,List.length_cons] at h2 ⊢
  omega
theorem Za.app : ∀ {p q:List Jf} {a b c:Int},Za a p b→Za b q c→Za a (p++q) c
 | [],_,a,b,c,h,g=>by
  have:a=b:=h
  subst this; exact g
 | s::p,q,a,b,c,h,g=>⟨h.1,h.2.1,Za.app h.2.2 g⟩
theorem Joq {s:Jf} (hs:Sp s) (f t:Int) {sp:Int} (hsp:1≤sp):Za s.From (Jdw f t sp s) s.To:=by
 unfold Jdw
 have hs':=hs
 unfold Sp at hs'
 split
 ·rename_i h
  rw [Hm,Hm]
  split <;> split <;> simp only [List.nil_append,List.cons_append,Za,Eg,Sp] <;> omega
 ·exact ⟨rfl,hs,rfl⟩
theorem Jh4 (f t:Int) {sp:Int} (hsp:1≤sp):∀ {p:List Jf} {a b:Int},Za a p b→Za a (Xp p f t sp) b
 | [],_,_,h=>h
 | s::p,a,b,h=>by
  obtain ⟨h1,h2,h3⟩:=h
  have:=Za.app (Joq h2 f t hsp) (Jh4 f t hsp h3)
  rw [h1] at this
  exact this
theorem Jsg {s u:Jf} {f t sp:Int} (h:u∈Jdw f t sp s):s.From≤u.From∧u.To≤s.To∧u.Grade=s.Grade∧u.Speed≤s.Speed:=by
 unfold Jdw at h
 split at h
 ·rw [Hm,Hm] at h
  simp only [List.mem_append,List.mem_cons] at h
  rcases h with h|h|h
  ·split at h
   ·simp only [List.mem_cons,List.not_mem_nil,or_false] at h; subst h; exact ⟨by simp only [Eg]; omega,by simp only [Eg]; omega,rfl,Int.le_refl _⟩
   ·simp at h
  ·subst h; dsimp only; omega
  ·split at h
   ·simp only [List.mem_cons,List.not_mem_nil,or_false] at h; subst h; exact ⟨by simp only [Eg]; omega,by simp only [Eg]; omega,rfl,Int.le_refl _⟩
   ·simp at h
 ·simp only [List.mem_cons,List.not_mem_nil,or_false] at h; subst h; omega
theorem Jzl {p:List Jf} {a b:Int} (h:Za a p b) (hl:p.length≤128):Cp p:=⟨hl,fun _ _ hx=>h.get hx⟩
theorem Kam {p:List Jf} (h:Cp p):∃ a b,Za a p b:=by
 cases p with
 | nil=>exact ⟨0,0,rfl⟩
 | cons s p=>exact ⟨s.From,_,Jvf h.2 (f:=s) rfl (List.getElem?_eq_getElem (by simp))⟩
theorem Kcb (p:List Jf) (f t sp:Int):Cp (Lim p f t sp):=by
 unfold Lim; split
 ·rename_i h
  obtain ⟨a,b,hc⟩:=Kam h.1
  exact Jzl (Jh4 f t h.2.1 hc) h.2.2
 ·exact Jqv
theorem Jux (f t sp:Int):Lim [] f t sp=[]:=by
 unfold Lim; split <;> simp [Xp]
theorem Za.mem_le : ∀ {p:List Jf} {a b:Int},Za a p b→a≤b
 | [],a,b,h=>by
  have:a=b:=h
  omega
 | s::p,a,b,h=>by
  have h1:=h.1; have h2:=h.2.1.2.1; have h3:=Za.mem_le h.2.2; omega
theorem Za.ex : ∀ {p:List Jf} {a b:Int},Za a p b→∀ {x:Int},a≤x→x<b→∃ s∈p,s.From≤x∧x<s.To
 | [],a,b,h,x,h1,h2=>by
  have:a=b:=h
  omega
 | s::p,a,b,h,x,h1,h2=>by
  by_cases hx:x<s.To
  ·exact ⟨s,by simp,by have:=h.1; omega,hx⟩
  ·obtain ⟨u,u1,u2⟩:=Za.ex h.2.2 (x:=x) (by omega) h2
   exact ⟨u,by simp [u1],u2⟩
/-! ### Lower profiles -/
/-- Between a and b, q has the grades of p and nowhere a greater speed; nothing is said if q is empty. -/
def Low (a b:Int) (p q:List Jf):Prop :=
 q=[]∨(Za a q b∧∀ x,a≤x→x<b→∃ s∈p,∃ u∈q,(s.From≤x∧x<s.To)∧(u.From≤x∧x<u.To)∧u.Grade=s.Grade∧u.Speed≤s.Speed)
theorem Low.refl {a b:Int} {p:List Jf} (h:p=[]∨Za a p b):Low a b p p:=by
 rcases h with h|h
 ·exact .inl h
 ·exact .inr ⟨h,fun x h1 h2=>by
   obtain ⟨s,s1,s2⟩:=h.ex h1 h2
   exact ⟨s,s1,s,s1,s2,s2,rfl,Int.le_refl _⟩⟩
theorem Low.trans {a b:Int} {p q r:List Jf} (hq:Cp q) (h:Low a b p q) (g:Low a b q r) (hn:q=[]→r=[]):Low a b p r:=by
 rcases g with g|⟨g1,g2⟩
 ·exact .inl g
 rcases h with h|⟨h1,h2⟩
 ·exact .inl (hn h)
 refine .inr ⟨g1,fun x x1 x2=>?_⟩
 obtain ⟨s,s1,u,u1,k1,k2,k3,k4⟩:=h2 x x1 x2
 obtain ⟨u',u1',v,v1,m1,m2,m3,m4⟩:=g2 x x1 x2
 have e1:=hq.at u1 k2.1 k2.2
 have e2:=hq.at u1' m1.1 m1.2
 rw [e1] at e2
 have:u=u':=congrArg Prod.fst e2
 subst this
 exact ⟨s,s1,v,v1,k1,m2,by omega,by omega⟩
theorem Kcd {a b:Int} {p:List Jf} (h:p=[]∨Za a p b) (f t sp:Int):Low a b p (Lim p f t sp):=by
 rcases h with rfl|h
 ·exact .inl (Jux f t sp)
 unfold Lim
 split
 ·rename_i hp
  refine .inr ⟨Jh4 f t hp.2.1 h,fun x x1 x2=>?_⟩
  obtain ⟨s,s1,s2⟩:=h.ex x1 x2
  obtain ⟨i,hi⟩:=List.getElem?_of_mem s1
  obtain ⟨u,u1,u2⟩:=(Joq (hp.1.ok hi) f t hp.2.1).ex s2.1 s2.2
  have:=Jsg u1
  exact ⟨s,s1,u,List.mem_flatMap.2 ⟨s,s1,u1⟩,s2,u2,this.2.2.1,this.2.2.2⟩
 ·exact .inl rfl
theorem Low.cont {a b:Int} {p q:List Jf} (h:Low a b p q):q=[]∨Za a q b:=h.imp id fun h=>h.1
/-! ### Restrictions -/
def Jza (e:Jw) (s:Jd):Prop:=s.In=0∨(s.In=2∧e.Kind=3)
instance (e:Jw) (s:Jd):Decidable (Jza e s):=by unfold Jza; exact inferInstance
def Jfw (e:Jw) (s:Jd) (B:Int) (r:Ju):Int×Int:=if Jza e s then (B+r.From,B+r.To) else (B+e.Length - r.To,B+e.Length - r.From)
noncomputable def Pp (l:Je) (r:Ju) (B:Int) (s:Jd) (p:List Jf):List Jf :=
 match l.Elements[s.El.toNat]? with
 | some e=>if s.El=r.El then Lim p (Jfw e s B r).1 (Jfw e s B r).2 r.Speed else p
 | none=>p
noncomputable def Hc (l:Je) (r:Ju):Int→List Jd→List Jf→List Jf
 | _,[],p=>p
 | B,s::w,p=>Hc l r (B+lenOf l s) w (Pp l r B s p)
theorem Te (l:Je) (r:Ju) (v:List Jd):∀ (w:List Jd) (B:Int) (p:List Jf),Hc l r B (w++v) p=Hc l r (B+Ur l w) v (Hc l r B w p)
 | [],B,p=>by simp [Hc,Ur]
 | s::w,B,p=>by
  simp only [List.cons_append,Hc,Te l r v w,Ur]
  rw [Int.add_assoc]
theorem Jwr (l:Je) (r:Ju) (B:Int) (s:Jd):Pp l r B s []=[]:=by
 unfold Pp
 split
 ·split
  ·exact Jux _ _ _
  ·rfl
 ·rfl
theorem Jgm (l:Je) (r:Ju):∀ (w:List Jd) (B:Int),Hc l r B w []=[]
 | [],_=>rfl
 | s::w,B=>by simp only [Hc,Jwr]; exact Jgm l r w _
theorem Jhy {l:Je} {r:Ju} {B:Int} {s:Jd} {p:List Jf} (h:Cp p):Cp (Pp l r B s p):=by
 unfold Pp
 split
 ·split
  ·exact Kcb _ _ _ _
  ·exact h
 ·exact h
theorem Jq8 {l:Je} {r:Ju}:∀ {w:List Jd} {B:Int} {p:List Jf},Cp p→Cp (Hc l r B w p)
 | [],_,_,h=>h
 | s::w,B,p,h=>Jq8 (w:=w) (Jhy h)
theorem Jnu {l:Je} {r:Ju} {B:Int} {s:Jd} {p:List Jf} {a b:Int} (h:p=[]∨Za a p b):Low a b p (Pp l r B s p):=by
 unfold Pp
 split
 ·split
  ·exact Kcd h _ _ _
  ·exact Low.refl h
 ·exact Low.refl h
theorem Jq7 {l:Je} {r:Ju} {a b:Int}:∀ {w:List Jd} {B:Int} {p:List Jf},Cp p→(p=[]∨Za a p b)→Low a b p (Hc l r B w p)
 | [],_,_,_,h=>Low.refl h
 | s::w,B,p,hp,h =>
  (Jnu h).trans (Jhy hp) (Jq7 (w:=w) (Jhy hp) (Jnu h).cont) fun e=>by
   rw [show Hc l r B (s::w) p=Hc l r (B+lenOf l s) w (Pp l r B s p) from rfl,e,Jgm]
def Jem (l:Je) (r:Ju):Prop :=
 (1≤r.Id∧r.Id≤1073741824)∧Uv l r.El=true∧0≤r.From∧r.From<r.To∧r.To≤Jd1 l r.El∧100≤r.Speed∧r.Speed≤10000
open Classical in
noncomputable def Jfi (l:Je) (o:Int) (w:List Jd) (r:Ju) (p:List Jf):List Jf:=if r.Active=true∧Jem l r then Hc l r o w p else p
noncomputable def Oz (l:Je) (o:Int) (w:List Jd) (list:List Ju) (p:List Jf):List Jf:=list.foldl (fun q r=>Jfi l o w r q) p
theorem Jz6 (l:Je) (o:Int) (w:List Jd) (r:Ju):Jfi l o w r []=[]:=by
 unfold Jfi; split
 ·exact Jgm l r w o
 ·rfl
theorem Jlz {l:Je} {o:Int} {w:List Jd} {r:Ju} {p:List Jf} (h:Cp p):Cp (Jfi l o w r p):=by
 unfold Jfi; split
 ·exact Jq8 h
 ·exact h
theorem Jsx {l:Je} {o:Int} {w:List Jd} {r:Ju} {p:List Jf} {a b:Int} (hp:Cp p) (h:p=[]∨Za a p b):Low a b p (Jfi l o w r p):=by
 unfold Jfi; split
 ·exact Jq7 hp h
 ·exact Low.refl h
theorem Jip (l:Je) (o:Int) (w:List Jd) (a b:List Ju) (p:List Jf):Oz l o w (a++b) p=Oz l o w b (Oz l o w a p):=by simp [Oz]
theorem Jxo (l:Je) (o:Int) (w:List Jd) (r:Ju) (p:List Jf):Oz l o w [r] p=Jfi l o w r p:=rfl
theorem Jk7 (l:Je) (o:Int) (w:List Jd):∀ list:List Ju,Oz l o w list []=[]
 | []=>rfl
 | r::list=>by
  have:=Jk7 l o w list
  simp only [Oz,List.foldl_cons,Jz6] at this ⊢
  exact this
theorem Jrn {l:Je} {o:Int} {w:List Jd}:∀ {list:List Ju} {p:List Jf},Cp p→Cp (Oz l o w list p)
 | [],_,h=>h
 | r::list,p,h=>Jrn (list:=list) (Jlz h)
theorem Jsa {l:Je} {o:Int} {w:List Jd} {a b:Int}:∀ {list:List Ju} {p:List Jf},Cp p→(p=[]∨Za a p b)→Low a b p (Oz l o w list p)
 | [],_,_,h=>Low.refl h
 | r::list,p,hp,h =>
  (Jsx hp h).trans (Jlz hp) (Jsa (list:=list) (Jlz hp) (Jsx hp h).cont) fun e=>by
   rw [show Oz l o w (r::list) p=Oz l o w list (Jfi l o w r p) from rfl,e,Jk7]
/-! ### The program: the profile of a way -/
theorem Jq4 {e:Jw} (he:-50≤e.Grade∧e.Grade≤50) (s:Jd):Zl e s=some (Kc2 e s):=by
 unfold Zl Kc2
 rw [Va (by omega) (by omega)]
 by_cases h0:s.In=0 <;> by_cases h2:s.In=2 <;> by_cases h3:e.Kind=3 <;> simp [h0,h2,h3]
theorem Jy2 (e:Jw) (s:Jd):Dn e s=some (Kd3 e s):=by
 unfold Dn Kd3
 by_cases h1:e.Kind=2 <;> by_cases h2:s.In=2 <;> by_cases h3:s.Out=2 <;> simp [h1,h2,h3]
theorem Kba {l:Je} {o:Int} {way:List Jd} {i:Nat} {s:Jd} {e:Jw} (hs:way[i]?=some s) (he:l.Elements[s.El.toNat]?=some e)
  (hn:¬ (-1073741824≤o+Ur l (way.take i)∧o+Ur l (way.take i)≤1073741824)):¬ Cp (ofS l o way):=fun hp=>by
 obtain ⟨j,hj⟩:=List.getElem?_of_mem (Ju4 (B:=o) he hs)
 have:=hp.ok hj
 unfold Sp Jxh at this
 dsimp only at this
 omega
theorem Jm7 {l:Je} (hO:OkL l) {way:List Jd} (hv:Wi l way) {o:Int} (ho:-1073741824≤o∧o≤1073741824):Ge l way o=some (ofP l o way):=by
 suffices Is (Ge l way o) fun r=>r=ofP l o way by obtain ⟨r,h,rfl⟩:=this; exact h
 unfold Ge
 have hl:=hv.2.1
 rw [decide_eq_false (by omega),cond_false]
 refine Is.fold (L:=way) (mk:=fun i (m:Int×List Jf)=>(m.1,i,m.2)) (fun i m=>m.1=o+Ur l (way.take i)∧m.2=ofS l o (way.take i)) (o,[]) (by omega) (by simp [Ur,ofS]) (fun i s m hs hi hI=>?_) (fun m hI=>?_)
 ·obtain ⟨B,p⟩:=m
  obtain ⟨rfl,rfl⟩:=hI
  obtain ⟨e,h1,h2,h3,h4,h5,h6⟩:=Jfo hO hv hs
  have hb:=Je1 hO hv i (by omega)
  have hlen:=Jvg l (way.take i) o
  rw [List.length_take] at hlen
  unfold Mc
  refine Is.inb hi (Is.at hs ?_)
  have hh:=h3
  simp only [Uv,Bool.and_eq_true,decide_eq_true_eq] at hh
  rw [decide_eq_false (show ¬ s.El<0 by omega),decide_eq_false (show ¬ ((l.Elements.length:Nat):Int)≤s.El by omega)]
  simp only [cond_false,Option.bind_some,h1,Jbr,h6,Bool.not_true,Vh]
  refine Is.ifn (p:=-1073741824≤o+Ur l (way.take i)∧o+Ur l (way.take i)≤1073741824) (by simp) (fun hc=>Is.val ?_) (fun hc=>?_)
  ·unfold ofP; rw [if_neg (Kba hs h2 hc)]
  ·rw [Jq4 h5.2.2.1,Jy2]
   simp only [Option.bind_some]
   have h52:=h5.2.1
   refine Is.bind (Is.app ?_) fun M hM=>Is.val ⟨(o+Ur l (way.take (i+1)),ofS l o (way.take (i+1))), ?_,rfl,rfl⟩
   ·simp only [List.length_cons,List.length_nil,Kn,Enc.b]; omega
   ·rw [hM,Fr hs,Jq6,Fq,Va (by omega) (by omega)]
    simp only [Jie,h2,Jxh,Ur,h4,Int.add_zero,Int.add_assoc]
 ·obtain ⟨B,p⟩:=m
  obtain ⟨rfl,rfl⟩:=hI
  unfold Mc
  refine Is.oub (Is.val ?_)
  rw [List.take_length]
  obtain ⟨b,hb,hbi⟩:=Yu (ofS l o way)
  show Is ((Uz (ofS l o way)).bind _) _
  rw [hb]
  refine Is.ifn hbi (fun hc=>Is.val ?_) (fun hc=>Is.val ?_)
  ·unfold ofP; rw [if_neg hc]
  ·unfold ofP; rw [if_pos hc]
/-! ### The program: a limit -/
theorem Jsv {s:Jf} (hs:Sp s) {f t sp:Int} (h:max s.From f<min s.To t) :
  ([⟨s.From,max s.From f,s.Grade,s.Speed⟩,⟨max s.From f,min s.To t,s.Grade,min s.Speed sp⟩,⟨min s.To t,s.To,s.Grade,s.Speed⟩]:List Jf).filter (fun x=>decide (x.From<x.To))=Jdw f t sp s:=by
 unfold Sp at hs
 unfold Jdw
 rw [if_pos h,Hm,Hm]
 have h2:decide (max s.From f<min s.To t)=true:=decide_eq_true h
 simp only [List.filter_cons,h2,if_true,List.filter_nil]
 by_cases c1:s.From<max s.From f
 ·have e1:max s.From (-1073741824)=s.From:=by omega
  have e2:min s.To f=max s.From f:=by omega
  by_cases c2:min s.To t<s.To
  ·have e3:max s.From t=min s.To t:=by omega
   have e4:min s.To 1073741824=s.To:=by omega
   simp [c1,c2,Eg,e1,e2,e3,e4]
  ·have e3:¬ max s.From t<min s.To 1073741824:=by omega
   simp only [decide_eq_false c2,decide_eq_true c1,if_neg e3,e1,e2,if_pos c1,Eg]
   simp
 ·have e1:¬ max s.From (-1073741824)<min s.To f:=by omega
  by_cases c2:min s.To t<s.To
  ·have e3:max s.From t=min s.To t:=by omega
   have e4:min s.To 1073741824=s.To:=by omega
   simp only [decide_eq_false c1,decide_eq_true c2,if_neg e1,e3,e4,if_pos c2,Eg]
   simp
  ·have e3:¬ max s.From t<min s.To 1073741824:=by omega
   simp only [decide_eq_false c1,decide_eq_false c2,if_neg e1,if_neg e3]
   simp
theorem Jhz {p:List Jf} (f t sp:Int):Yj p f t sp=some (Lim p f t sp):=by
 suffices Is (Yj p f t sp) fun r=>r=Lim p f t sp by obtain ⟨r,h,rfl⟩:=this; exact h
 unfold Yj
 obtain ⟨b,hb,hbi⟩:=Yu p
 rw [hb]
 simp only [Option.bind_some]
 refine Is.ite (p:=¬ (Cp p∧1≤sp)) (by
  rw [← hbi]; cases b <;> simp <;> omega) (fun hc=>Is.val ?_) (fun hc=>?_)
 ·unfold Lim; rw [if_neg fun q=>hc ⟨q.1,q.2.1⟩]
 have hc:=Classical.not_not.1 hc
 have hp:=hc.1
 have hpl:=hp.1
 refine Is.fold (L:=p) (mk:=fun i (m:List Jf)=>(i,m)) (fun i m=>m=Xp (p.take i) f t sp) [] (by omega) rfl (fun i s m hs hi hI=>?_) (fun m hI=>?_)
 ·subst hI
  unfold Ep
  have hlen:=(Jsu f t sp (p.take i)).2
  rw [List.length_take] at hlen
  have hok:=hp.ok hs
  have hsn:Xp (p.take (i+1)) f t sp=Xp (p.take i) f t sp++Jdw f t sp s:=by rw [Fr hs,Jwb]
  refine Is.inb hi ?_
  refine Is.onInl (θ:=fun o=>o=.inl (Xp (p.take (i+1)) f t sp)) (Is.at hs ?_) (fun v hv=>Is.val ⟨Xp (p.take (i+1)) f t sp,by cases hv; rfl,rfl⟩) (fun b hb=>by cases hb)
  simp only [Wp,Option.bind_some]
  refine Is.ifn (p:=max s.From f<min s.To t) Vb (fun hn=>?_) (fun hy=>?_)
  ·refine Is.bind (Is.app ?_) fun M hM=>Is.val ?_
   ·simp only [List.length_cons,List.length_nil,Kn,Enc.b]; omega
   ·rw [hM,hsn]; unfold Jdw; rw [if_neg hn]
  ·rw [hsn,← Jsv hok hy]
   generalize hL:([⟨s.From,max s.From f,s.Grade,s.Speed⟩,⟨max s.From f,min s.To t,s.Grade,min s.Speed sp⟩,⟨min s.To t,s.To,s.Grade,s.Speed⟩]:List Jf)=L
   have hLl:L.length=3:=by rw [← hL]; rfl
   have hstep:Ms sp s (⟨max s.From f,min s.To t,s.Grade,s.Speed⟩,decide (max s.From f<min s.To t))=fun (x:List Jf×Int)=>bif decide (x.2<((L.length:Nat):Int)) then (onInl (α:=(List Jf)) ((ixO L x.2).bind fun x188=>bif decide (x188.From<x188.To) then ((Vg x.1 [x188]).bind fun x189=>some (.inl x189)) else some (.inl x.1)) fun x187=>some (.inl (x187,w64 (x.2+1)))) else some (.inr (.inl x.1)):=by
    rw [← hL]; rfl
   rw [hstep]
   refine Is.fold (L:=L) (mk:=fun j (m:List Jf)=>(m,j)) (fun j m=>m=Xp (p.take i) f t sp++(L.take j).filter (fun x=>decide (x.From<x.To))) (Xp (p.take i) f t sp) (by omega) (by simp) (fun j u m hu hj hI=>?_) (fun m hI=>?_)
   ·subst hI
    have hl2:((L.take j).filter (fun x=>decide (x.From<x.To))).length≤3:=Nat.le_trans (List.length_filter_le _ _) (by rw [List.length_take]; omega)
    refine Is.inb hj ?_
    refine Is.onInl (θ:=fun o=>o=.inl (Xp (p.take i) f t sp++(L.take (j+1)).filter (fun x=>decide (x.From<x.To)))) (Is.at hu ?_) (fun v hv=>Is.val ⟨_,by cases hv; rfl,rfl⟩) (fun b hb=>by cases hb)
    rw [Fr hu,List.filter_append]
    refine Is.ite Vb (fun hq=>?_) (fun hq=>Is.val ?_)
    ·refine Is.bind (Is.app ?_) fun M hM=>Is.val ?_
     ·simp only [List.length_append,List.length_cons,List.length_nil,Kn,Enc.b]; omega
     ·rw [hM]; simp [hq]
    ·simp [hq]
   ·subst hI
    refine Is.oub (Is.val ?_)
    rw [List.take_length]
    exact Is.val rfl
 ·subst hI
  unfold Ep
  refine Is.oub (Is.val ?_)
  rw [List.take_length]
  refine Is.ite (p:=128<(Xp p f t sp).length) (by rw [decide_eq_true_iff]; omega) (fun hq=>Is.val ?_) (fun hq=>Is.val ?_)
  ·unfold Lim; rw [if_neg fun q=>by omega]
  ·unfold Lim; rw [if_pos ⟨hp,hc.2,by omega⟩]
/-! ### The program: restrictions -/
theorem Jtm {l:Je} {i:Int} {e:Jw} (he:l.Elements[i.toNat]?=some e):Jd1 l i=e.Length:=by simp [Jd1,he]
theorem Jbx (l:Je) (r:Ju):Is (Yn l r) fun c=>(c=0∧Jem l r)∨(c=1∧¬ Jem l r):=by
 unfold Yn
 refine Is.bind (φ:=fun b=>b=true↔¬ ((1≤r.Id∧r.Id≤1073741824)∧Uv l r.El=true)) ?_ fun b hb=>Is.ite hb (fun h=>Is.val (.inr ⟨rfl,fun q=>h ⟨q.1,q.2.1⟩⟩)) fun h=>?_
 ·refine (Is.or (p:=¬ (1≤r.Id∧r.Id≤1073741824)∨r.El<0) (q:=((l.Elements.length:Nat):Int)≤r.El) (by simp; omega) fun _=>Is.dec Iff.rfl).iff ?_
  simp only [Uv,Bool.and_eq_true,decide_eq_true_eq]; omega
 obtain ⟨h1,h2⟩:=Classical.not_not.1 h
 obtain ⟨e,e1,e2⟩:=Wf h2
 have hl:=Jtm e2
 refine Is.bind (φ:=fun b=>b=true↔¬ (0≤r.From∧r.From<r.To∧r.To≤e.Length)) ?_ fun b hb=>Is.ite (p:=¬ (0≤r.From∧r.From<r.To∧r.To≤e.Length∧100≤r.Speed∧r.Speed≤10000)) (by
   rw [Bool.or_eq_true,Bool.or_eq_true,hb,decide_eq_true_iff,decide_eq_true_iff]; omega) (fun h=>Is.val (.inr ⟨rfl,fun q=>h ?_⟩)) fun h=>Is.val (.inl ⟨rfl,h1,h2, ?_⟩)
 ·refine (Is.or (p:=r.From<0∨r.To≤r.From) (q:=e.Length<r.To) (by simp) fun _=>?_).iff (by omega)
  rw [e1]; exact Is.dec Iff.rfl
 ·have:=q.2.2; omega
 ·omega
theorem Ka5 (e:Jw) (s:Jd):((decide (s.In=0))||((decide (s.In=2))&&(decide (e.Kind=3))))=true↔Jza e s:=by simp [Jza]
theorem Kbr {l:Je} {r:Ju} {o:Int} {way:List Jd} {p:List Jf} {i:Nat} {s:Jd} (hs:way[i]?=some s) :
  Hc l r o (way.take (i+1)) p=Pp l r (o+Ur l (way.take i)) s (Hc l r o (way.take i) p):=by rw [Fr hs,Te]; rfl
theorem Kaf {l:Je} {r:Ju} {o:Int} {way:List Jd} {p:List Jf} {i:Nat} (h:Hc l r o (way.take i) p=[]):Hc l r o way p=[]:=by
 have:=Te l r (way.drop i) (way.take i) o p
 rw [List.take_append_drop,h,Jgm] at this
 exact this
theorem Jtg {l:Je} (hO:OkL l) {way:List Jd} (hv:Wi l way) {o:Int} (ho:-1073741824≤o∧o≤1073741824) (p:List Jf) {r:Ju} (hr:Jem l r) :
  Is (Wv l way o p r) fun q=>q=some (Hc l r o way p)∨(q=none∧Hc l r o way p=[]):=by
 unfold Wv
 have hl:=hv.2.1
 refine Is.fold (L:=way) (mk:=fun i (m:List Jf×Int)=>(m.1,m.2,i)) (fun i m=>m.1=Hc l r o (way.take i) p∧m.2=o+Ur l (way.take i)) (p,o) (by omega) (by simp [Ur,Hc]) (fun i s m hs hi hI=>?_) (fun m hI=>?_)
 ·obtain ⟨q,B⟩:=m
  obtain ⟨rfl,rfl⟩:=hI
  obtain ⟨e,h1,h2,h3,h4,h5,h6⟩:=Jfo hO hv hs
  have hb:=Je1 hO hv i (by omega)
  have hat:=Kbr (l:=l) (r:=r) (o:=o) (p:=p) hs
  have hel:=h5.2.1
  generalize hQ:Hc l r o (way.take i) p=Q at hat ⊢
  generalize hB:o+Ur l (way.take i)=B at hat ⊢
  have hB2:-2147483648≤B∧B≤2147483648:=by omega
  have hsum:o+Ur l (way.take (i+1))=B+e.Length:=by
   rw [Fr hs,Fq]; simp only [Ur,h4,Int.add_zero]; omega
  have hstep:Pp l r B s Q=if s.El=r.El then Lim Q (Jfw e s B r).1 (Jfw e s B r).2 r.Speed else Q:=by simp [Pp,h2]
  unfold Yh
  refine Is.inb hi ?_
  refine Is.onInl (θ:=fun z=>z=.inl (Hc l r o (way.take (i+1)) p,o+Ur l (way.take (i+1)))∨(z=.inr (.inr (.inr none))∧Hc l r o (way.take (i+1)) p=[])) (Is.at hs ?_) (fun v hv=>Is.val ?_) (fun b hb=>?_)
  ·have hh:=h3
   simp only [Uv,Bool.and_eq_true,decide_eq_true_eq] at hh
   rw [decide_eq_false (show ¬ s.El<0 by omega),decide_eq_false (show ¬ ((l.Elements.length:Nat):Int)≤s.El by omega)]
   simp only [cond_false,Option.bind_some,h1]
   refine Is.onInl (θ:=fun z=>z=.inl (Hc l r o (way.take (i+1)) p)∨(z=.inr (.inr (.inr (.inr none)))∧Hc l r o (way.take (i+1)) p=[])) ?_ (fun v hv=>Is.val ?_) (fun b hb=>?_)
   ·refine Is.ite Vb (fun heq=>?_) (fun hne=>Is.val ?_)
    ·have hre:Jd1 l r.El=e.Length:=by rw [← heq]; exact Jtm h2
     obtain ⟨c1,c2,c3,c4,c5,c6⟩:=hr
     refine Is.onInl (θ:=fun z=>z=.inl (Jfw e s B r)) ?_ (fun v hv=>?_) (fun b hb=>by cases hb)
     ·unfold Jfw
      refine Is.ite (Ka5 e s) (fun hf=>Is.val ?_) (fun hf=>Is.val ?_)
      ·rw [if_pos hf,Va (by omega) (by omega),Va (by omega) (by omega)]
      ·rw [if_neg hf,Va (n:=B+e.Length) (by omega) (by omega),Va (by omega) (by omega),Va (by omega) (by omega)]
     ·cases hv
      rw [if_pos heq] at hstep
      show Is ((Yj Q (Jfw e s B r).1 (Jfw e s B r).2 r.Speed).bind _) _
      rw [Jhz,← hstep,← hat]
      simp only [Option.bind_some]
      refine Is.onInl (θ:=fun z=>z=.inl ()∨(z=.inr (.inr (.inr (.inr (.inr none))))∧Hc l r o (way.take (i+1)) p=[])) ?_ (fun v hv=>Is.val ?_) (fun b hb=>?_)
      ·refine Is.bind (φ:=fun b=>b=true→Hc l r o (way.take (i+1)) p=[]) (Is.ite Vb (fun hz=>Is.val fun _=>List.length_eq_zero_iff.1 (by omega)) (fun _=>Is.val fun h=>by cases h)) fun b hb=>Is.cond (fun h=>Is.val (.inr ⟨rfl,hb h⟩)) (fun h=>Is.val (.inl rfl))
      ·exact .inl rfl
      ·rcases hb with hb|⟨hb,hz⟩
       ·cases hb
       ·cases hb; exact .inr ⟨rfl,hz⟩
    ·left; rw [hat,hstep,if_neg hne]
   ·rcases hv with hv|⟨hv,_⟩
    ·cases hv; left; rw [hsum,Va (by omega) (by omega)]
    ·cases hv
   ·rcases hb with hb|⟨hb,hz⟩
    ·cases hb
    ·cases hb; exact .inr ⟨rfl,hz⟩
  ·rcases hv with hv|⟨hv,_⟩
   ·cases hv; exact ⟨(_,_),rfl,rfl,rfl⟩
   ·cases hv
  ·rcases hb with hb|⟨hb,hz⟩
   ·cases hb
   ·cases hb; exact .inr ⟨rfl,Kaf hz⟩
 ·obtain ⟨q,B⟩:=m
  obtain ⟨rfl,rfl⟩:=hI
  unfold Yh
  refine Is.oub (Is.val ?_)
  rw [List.take_length]
  exact Is.val (.inl rfl)
theorem Kah {l:Je} {o:Int} {way:List Jd} {p:List Jf} {list:List Ju} {i:Nat} (h:Oz l o way (list.take i) p=[]):Oz l o way list p=[]:=by
 have:=Jip l o way (list.take i) (list.drop i) p
 rw [List.take_append_drop,h,Jk7] at this
 exact this
theorem Jb1 {l:Je} (hj:l.Joints.length≤1048576) (hO:OkL l) {way:List Jd} (hv:Wi l way) {o:Int} (ho:-1073741824≤o∧o≤1073741824) {p:List Jf} (hp:Cp p) {list:List Ju} (hl:list.length≤1048576) :
  Wo list way o l p=some (Oz l o way list p):=by
 suffices Is (Wo list way o l p) fun r=>r=Oz l o way list p by obtain ⟨r,h,rfl⟩:=this; exact h
 unfold Wo Wn
 have hpl:=hp.1
 have hvl:=hv.2.1
 obtain ⟨M,hM,hM2⟩:=Is.app (L:=([]:List Jf)) (ys:=p) (by simp only [List.length_nil,Kn,Enc.b]; omega)
 rw [hM]
 simp only [List.nil_append] at hM2
 subst hM2
 obtain ⟨b,hb,hbi⟩:=Yu M
 obtain ⟨c,hc,hci⟩:=Tz l way hj (by omega)
 rw [hb,hc,hbi.2 hp,hci.2 hv,decide_eq_false (show ¬ o < -1073741824 by omega),decide_eq_false (show ¬ 1073741824<o by omega)]
 simp only [Option.bind_some,Bool.not_true,cond_false,Bool.or_self]
 refine Is.fold (L:=list) (mk:=fun i (m:List Jf)=>(i,m)) (fun i m=>m=Oz l o way (list.take i) M) M (by omega) rfl (fun i r m hr hi hI=>?_) (fun m hI=>?_)
 ·subst hI
  unfold Zr
  have hat:Oz l o way (list.take (i+1)) M=Jfi l o way r (Oz l o way (list.take i) M):=by rw [Fr hr,Jip,Jxo]
  refine Is.inb hi ?_
  refine Is.onInl (θ:=fun z=>z=.inl (Oz l o way (list.take (i+1)) M)∨(z=.inr (.inr (.inr []))∧Oz l o way (list.take (i+1)) M=[])) (Is.at hr ?_) (fun v hv=>Is.val ?_) (fun b hb=>?_)
  ·refine Is.bind (φ:=fun b=>b=true↔r.Active=true∧Jem l r) (Is.and Iff.rfl fun _=>Is.bind (Jbx l r) fun c hc=>Is.dec ?_) fun b hb=>?_
   ·rcases hc with ⟨rfl,hc⟩|⟨rfl,hc⟩
    ·exact iff_of_true rfl hc
    ·exact iff_of_false (by omega) hc
   ·refine Is.ite hb (fun hy=>?_) (fun hn=>Is.val ?_)
    ·obtain ⟨q,hq,hq2⟩:=Jtg hO hv ho (Oz l o way (list.take i) M) hy.2
     unfold Kb5
     rw [hq]
     have e1:Oz l o way (list.take (i+1)) M=Hc l r o way (Oz l o way (list.take i) M):=by rw [hat]; unfold Jfi; rw [if_pos hy]
     rcases hq2 with rfl|⟨rfl,hz⟩
     ·exact Is.val (.inl (by rw [e1]))
     ·exact Is.val (.inr ⟨rfl,by rw [e1]; exact hz⟩)
    ·left; rw [hat]; unfold Jfi; rw [if_neg hn]
  ·rcases hv with hv|⟨hv,_⟩
   ·cases hv; exact ⟨_,rfl,rfl⟩
   ·cases hv
  ·rcases hb with hb|⟨hb,hz⟩
   ·cases hb
   ·cases hb; exact (Kah hz).symm
 ·subst hI
  unfold Zr
  refine Is.oub (Is.val ?_)
  rw [List.take_length]
  exact Is.val rfl
end PM
/-
 PLAIN, AUTHORITY D: the reference's profiles and restrictions; Build; the laws AuthorityBuilds, AuthorityCovers, AuthorityRestricts.
-/
namespace PM
open Go Go.RowKit
/-! ### The reference: restrictions -/
/-! ### Build -/
noncomputable def Jjw (l:Je) (k:Kj) (list:List Ju):List Jf:=Oz l k.Origin k.Steps list (ofP l k.Origin k.Steps)
theorem Jz1 (l:Je) (k:Kj) (list:List Ju):Cp (Jjw l k list):=Jrn (Jj1 _ _ _)
end PM
/-
 PLAIN, AUTHORITY E: the laws AuthorityBuilds, AuthorityCovers, AuthorityRestricts.
-/
namespace PM
open Go Go.RowKit
theorem Jml : Is (Yb.bind fun r=>some r) fun r=>r=true:=by rw [Jby]; exact Is.val rfl
theorem Jwl {b:Bool} (h:b=true):Is (((bif b then (Yb.bind fun r=>some r) else some false):Option Bool).bind fun c=>some c) fun r=>r=true:=by
 subst h; rw [Jby]; exact Is.val rfl
/-! ### Coverage -/
theorem Za.inside : ∀ {p:List Jf} {a b:Int},Za a p b→∀ {s:Jf},s∈p→a≤s.From∧s.To≤b
 | [],_,_,_,s,h=>by simp at h
 | u::p,a,b,hc,s,h=>by
  have h1:=hc.1; have h2:=hc.2.1.2.1
  rcases List.mem_cons.1 h with rfl|h
  ·have:=Za.mem_le hc.2.2; omega
  ·have:=Za.inside hc.2.2 h; omega
theorem Jwv {a b at':Int} {q:List Jf} (hc:q=[]∨Za a q b) (h:∃ y,(Iv q a at')[(Iv q a at').length - 1]?=some y∧y.To=at') :
  q≠[]∧a<at'∧at'≤b∧Za a (Iv q a at') at':=by
 obtain ⟨y,hy,e⟩:=h
 have hm:=List.mem_of_getElem? hy
 unfold Iv at hm
 obtain ⟨s,s1,s2⟩:=List.mem_map.1 hm
 obtain ⟨s3,s4⟩:=List.mem_filter.1 s1
 have s5:=of_decide_eq_true s4
 have hne:q≠[]:=fun e=>by subst e; simp at s3
 have hc:=hc.resolve_left hne
 have hin:=hc.inside s3
 have e2:min s.To at'=at':=by rw [← e,← s2]; simp [Eg]
 exact ⟨hne,by omega,by omega,hc.cut (Int.le_refl _) (by omega) (by omega)⟩
theorem Jxf {l:Je} (hO:OkL l) {way:List Jd} (hv:Wi l way) (o:Int):ofP l o way=[]∨Za o (ofP l o way) (o+Ur l way):=by
 unfold ofP
 split
 ·rename_i hp
  right
  refine Jqx (fun s hs=>?_) hp
  obtain ⟨i,hi⟩:=List.getElem?_of_mem hs
  obtain ⟨e,_,h2,_,h4,_⟩:=Jfo hO hv hi
  exact ⟨e,h2,h4⟩
 ·exact .inl rfl
theorem Jzc {l:Je} (hO:OkL l) {k:Kj} (hv:Wi l k.Steps) (list:List Ju):Low k.Origin (k.Origin+Ur l k.Steps) (ofP l k.Origin k.Steps) (Jjw l k list) :=
 Jsa (Jj1 _ _ _) (Jxf hO hv _)
/-! ### One more restriction -/
end PM
/-
 PLAIN, BODY B: what a body and a movement are.
-/
namespace PM
open Go Go.RowKit
/-! ### Lengths -/
/-! ### The steps that a body has not left -/
section
variable {l:Je} {len:Int}
end
/-! ### Entering the next element -/
/-! ### Movements -/
structure MvR where
 way:List Jd
 head:Int
 left:Int
 ended:Bool
end PM
/-
 PLAIN, BODY C: what movements keep.
-/
namespace PM
open Go Go.RowKit
/-! ### Ways -/
theorem Wi.has {l:Je} {way:List Jd} (h:Wi l way) {s:Jd} (hs:s∈way):Uv l s.El=true:=by
 obtain ⟨i,hi,e⟩:=List.mem_iff_getElem.1 hs
 obtain ⟨t,h1,h2,-⟩:=h.2.2 i hi
 rw [List.getElem?_eq_getElem hi,e] at h1
 cases h1
 exact Kbd h2
theorem OkL.lens {l:Je} (hl:OkL l) {s:Jd} (h:Uv l s.El=true):500≤lenOf l s∧lenOf l s≤1000000:=by
 obtain ⟨x,h1,h2⟩:=Wf h
 have:=hl.elem.1 x (List.mem_of_getElem? h2)
 simp only [lenOf,h,h2,cond_true,Option.map_some,Option.getD_some]
 exact this.2.1
theorem OkL.sum {l:Je} (hl:OkL l):∀ {way:List Jd},(∀ s∈way,Uv l s.El=true)→0≤Ur l way∧Ur l way≤1000000 * way.length
 | [],_=>by simp [Ur]
 | s::r,h=>by
  have h1:=hl.lens (h s (by simp))
  have h2:=hl.sum (way:=r) fun t ht=>h t (by simp [ht])
  simp only [Ur,List.length_cons]; omega
end PM
/-
 PLAIN, AUTHORITY F: the law AuthorityGrows (1): profiles that agree up to a coordinate; Build and Extends of the program alone.
-/
namespace PM
open Go Go.RowKit
/-! ### Profiles that agree up to c -/
theorem Jpx {s u:Jf} {f t sp:Int} (h:u∈Jdw f t sp s) {x:Int} (h1:u.From≤x) (h2:x<u.To) :
  (s.From≤x∧x<s.To)∧u.Grade=s.Grade∧u.Speed=if f≤x∧x<t then min s.Speed sp else s.Speed:=by
 have hm:=Jsg h
 refine ⟨by omega,hm.2.2.1, ?_⟩
 unfold Jdw at h
 split at h
 ·rename_i hc
  rw [Hm,Hm] at h
  simp only [List.mem_append,List.mem_cons] at h
  rcases h with h|h|h
  ·split at h
   ·simp only [List.mem_cons,List.not_mem_nil,or_false] at h; subst h
    simp only [Eg] at h1 h2 ⊢
    rw [if_neg (by omega)]
   ·simp at h
  ·subst h; dsimp only at h1 h2 ⊢; rw [if_pos (by omega)]
  ·split at h
   ·simp only [List.mem_cons,List.not_mem_nil,or_false] at h; subst h
    simp only [Eg] at h1 h2 ⊢
    rw [if_neg (by omega)]
   ·simp at h
 ·simp only [List.mem_cons,List.not_mem_nil,or_false] at h; subst h
  rw [if_neg (by omega)]
theorem Jpv {p:List Jf} {f t sp:Int} {u:Jf} (h:u∈Lim p f t sp):∃ s∈p,u∈Jdw f t sp s:=by
 unfold Lim at h; split at h
 ·exact List.mem_flatMap.1 h
 ·simp at h
def Agr (c:Int) (p q:List Jf):Prop:=∀ x,x<c→∀ s∈p,s.From≤x→x<s.To→∀ u∈q,u.From≤x→x<u.To→u.Grade=s.Grade∧u.Speed=s.Speed
section
variable {c:Int} {p q:List Jf}
theorem Agr.lim (h:Agr c p q) (f t sp:Int):Agr c (Lim p f t sp) (Lim q f t sp):=by
 intro x hx s hs s1 s2 u hu u1 u2
 obtain ⟨s0,a0,a1⟩:=Jpv hs
 obtain ⟨u0,b0,b1⟩:=Jpv hu
 obtain ⟨⟨c1,c2⟩,c3,c4⟩:=Jpx a1 s1 s2
 obtain ⟨⟨d1,d2⟩,d3,d4⟩:=Jpx b1 u1 u2
 obtain ⟨e1,e2⟩:=h x hx s0 a0 c1 c2 u0 b0 d1 d2
 rw [c3,c4,d3,d4,e1,e2]; exact ⟨rfl,rfl⟩
theorem Agr.limR (h:Agr c p q) {f:Int} (hf:c≤f) (t sp:Int):Agr c p (Lim q f t sp):=by
 intro x hx s hs s1 s2 u hu u1 u2
 obtain ⟨u0,b0,b1⟩:=Jpv hu
 obtain ⟨⟨d1,d2⟩,d3,d4⟩:=Jpx b1 u1 u2
 obtain ⟨e1,e2⟩:=h x hx s hs s1 s2 u0 b0 d1 d2
 rw [if_neg (by omega)] at d4
 rw [d3,d4]; exact ⟨e1,e2⟩
variable {l:Je} {r:Ju}
theorem Agr.stp (h:Agr c p q) (B:Int) (s:Jd):Agr c (Pp l r B s p) (Pp l r B s q):=by
 unfold Pp
 split
 ·split
  ·exact h.lim _ _ _
  ·exact h
 ·exact h
theorem Agr.low : ∀ {w:List Jd} {B:Int} {p q:List Jf},Agr c p q→Agr c (Hc l r B w p) (Hc l r B w q)
 | [],_,_,_,h=>h
 | s::w,B,_,_,h=>Agr.low (w:=w) (h.stp B s)
theorem Kak (hO:OkL l) (s:Jd):0≤lenOf l s:=by
 by_cases h:Uv l s.El=true
 ·have:=hO.lens h; omega
 ·unfold lenOf
  rw [Bool.not_eq_true] at h
  rw [h]; exact Int.le_refl _
theorem Agr.stpR (h:Agr c p q) (hr:Jem l r) {B:Int} (hB:c≤B) (s:Jd):Agr c p (Pp l r B s q):=by
 unfold Pp
 split
 ·rename_i e he
  split
  ·rename_i hs
   refine h.limR ?_ _ _
   obtain ⟨_,_,r1,r2,r3,_⟩:=hr
   have:Jd1 l r.El=e.Length:=by rw [← hs]; exact Jtm he
   unfold Jfw
   split <;> dsimp only <;> omega
  ·exact h
 ·exact h
theorem Agr.lowR (hO:OkL l) (hr:Jem l r):∀ {w:List Jd} {B:Int} {p q:List Jf},c≤B→Agr c p q→Agr c p (Hc l r B w q)
 | [],_,_,_,_,h=>h
 | s::w,B,_,_,hB,h=>Agr.lowR hO hr (w:=w) (by have:=Kak hO s; omega) (h.stpR hr hB s)
theorem Agr.one (hO:OkL l) {o:Int} {v:List Jd} (w:List Jd) (h:Agr (o+Ur l v) p q):Agr (o+Ur l v) (Jfi l o v r p) (Jfi l o (v++w) r q):=by
 unfold Jfi
 split
 ·rename_i hr; rw [Te]; exact Agr.lowR hO hr.2 (Int.le_refl _) h.low
 ·exact h
theorem Agr.app (hO:OkL l) {o:Int} {v:List Jd} (w:List Jd):∀ {list:List Ju} {p q:List Jf},Agr (o+Ur l v) p q→Agr (o+Ur l v) (Oz l o v list p) (Oz l o (v++w) list q)
 | [],_,_,h=>h
 | r::list,_,_,h=>Agr.app hO w (list:=list) (h.one hO w)
theorem Je2 (l:Je) (w:List Jd):∀ (v:List Jd) (B:Int),ofS l B (v++w)=ofS l B v++ofS l (B+Ur l v) w
 | [],B=>by simp [ofS,Ur]
 | s::v,B=>by
  simp only [List.cons_append,ofS,Je2 l w v,List.append_assoc,Ur]
  rw [Int.add_assoc]
theorem Kce (l:Je) (o:Int) (v w:List Jd) (c:Int):Agr c (ofP l o v) (ofP l o (v++w)):=by
 intro x _ s hs s1 s2 u hu u1 u2
 have hpv:=Jj1 l o (v++w)
 have hs':s∈ofP l o (v++w):=by
  unfold ofP at hs hu ⊢
  split at hs
  ·split at hu
   ·rw [Je2]; rename_i hp; rw [if_pos (by rwa [Je2] at hp)]; exact List.mem_append_left _ hs
   ·simp at hu
  ·simp at hs
 have e1:=hpv.at hs' s1 s2
 rw [hpv.at hu u1 u2] at e1
 have:u=s:=congrArg Prod.fst e1
 subst this
 exact ⟨rfl,rfl⟩
theorem Jxz (hO:OkL l) (list:List Ju) {k k':Kj} {w:List Jd} (h1:k'.Origin=k.Origin) (h2:k'.Steps=k.Steps++w):Agr (k.Origin+Ur l k.Steps) (Jjw l k list) (Jjw l k' list):=by
 unfold Jjw
 rw [h1,h2]
 exact Agr.app hO w (Kce l k.Origin k.Steps w _)
end
/-! ### Build and Extends -/
theorem Jsd {l:Je} (h:Sm l) (hO:OkL l) {k:Kj} (hs:k.Steps.length≤100) (ho:-1073741824≤k.Origin∧k.Origin≤1073741824) {list:List Ju} (hl:list.length≤1048576) (seq:Int) :
  Is (Ve l k list seq) fun r=>r.1.Profile.length≤128∧(r.2=0→Wi l k.Steps∧Jgn r.1∧r.1.End=k.At∧r.1.Profile=Iv (Jjw l k list) k.Origin k.At):=by
 unfold Ve
 refine (Tz l k.Steps h.jo (by omega)).bind fun c hc=>?_
 cases c with
 | false=>exact Is.val ⟨by simp,fun e=>by cases e⟩
 | true =>
  have hv:=hc.1 rfl
  refine Is.cond (fun _=>Is.val ⟨by simp,fun e=>by cases e⟩) fun _=>?_
  obtain ⟨M,m1,m2,m3⟩:=Jnb h hO hv ho k.At
  rw [Jm7 hO hv ho,Option.bind_some,Jb1 h.jo hO hv ho (Jj1 _ _ _) hl,Option.bind_some]
  show Is ((Yt (Jjw l k list) k.Origin k.At).bind _) _
  have hpv:=Jz1 l k list
  have hpl:=hpv.1
  have hcl:(Iv (Jjw l k list) k.Origin k.At).length≤(Jjw l k list).length:=by unfold Iv; rw [List.length_map]; exact List.length_filter_le _ _
  rw [Jmb hpv,Option.bind_some,m1,Option.bind_some]
  refine (Iu (a:=⟨seq,k.At,Iv (Jjw l k list) k.Origin k.At,M⟩) (by dsimp only; omega)).bind fun b hb=>?_
  cases b with
  | false=>exact Is.val ⟨by simp,fun e=>by cases e⟩
  | true=>exact Is.val ⟨by dsimp only; omega,fun _=>⟨hv,hb.1 rfl,rfl,rfl⟩⟩
theorem Kbe {a b:Kk} (ha:Jgn a) (hb:Jgn b) (he:a.End≤b.End) {f g:Jf} (hf:a.Profile[0]?=some f) (hg:b.Profile[0]?=some g) :
  Km (Wu a b) (max f.From g.From)=Km (Jc6 a b) (max f.From g.From):=by
 have key:∀ x,max f.From g.From≤x→Wu a b x=Jc6 a b x∧∀ t,Jc6 a b x=some (.inl t)→max f.From g.From≤t:=by
  intro x hx
  unfold Wu Jc6
  by_cases hlt:x<a.End
  ·obtain ⟨s,s1,t,t1,e1,e2,e3,e4⟩:=Jti ha hb he hf hg hx hlt
   rw [Jd8 ha.1.2,Jd8 hb.1.2,e1,e2,decide_eq_true hlt]
   simp only [Option.bind_some,cond_true,Bool.not_true,Bool.false_or]
   have:decide (min s.To t.To≤x)=false:=decide_eq_false (by omega)
   rw [this]
   refine ⟨by simp,fun y hy=>?_⟩
   cases hc:(!(decide (s.Grade=t.Grade)) || !(decide (s.Speed=t.Speed))) <;> rw [hc] at hy <;> simp at hy
   omega
  ·rw [decide_eq_false hlt]
   exact ⟨rfl,fun t ht=>by simp at ht⟩
 exact Jrq (I:=fun x=>max f.From g.From≤x) (fun x hx=>⟨(key x hx).1,fun t ht=>(key x hx).2 t ((key x hx).1▸ht)⟩) (Int.le_refl _)
theorem Jrw {a b:Kk} (h1:a.Profile.length≤128) (h2:b.Profile.length≤128) (ha:Jgn a) (hb:Jgn b) (he:a.End≤b.End)
  (hag:∀ x,x<a.End→∀ s∈a.Profile,s.From≤x→x<s.To→∀ u∈b.Profile,u.From≤x→x<u.To→u.Grade=s.Grade∧u.Speed=s.Speed):Vc a b=some true:=by
 unfold Vc
 obtain ⟨r1,e1,k1⟩:=Iu (a:=a) (by omega)
 obtain ⟨r2,e2,k2⟩:=Iu (a:=b) (by omega)
 obtain rfl:=k1.2 ha
 obtain rfl:=k2.2 hb
 obtain ⟨f,_,hf,_⟩:=ha.first
 obtain ⟨g,_,hg,_⟩:=hb.first
 rw [e1,e2,decide_eq_false (show ¬ b.End<a.End by omega),show ixO a.Profile 0=some f from Wk hf,show ixO b.Profile 0=some g from Wk hg]
 simp only [Bool.not_true,cond_false,Option.bind_some,Bool.or_self]
 rw [Kbe ha hb he hf hg]
 obtain ⟨r,hr,hi⟩:=Kbi ha hb he hf hg
 unfold Kc1 at hr
 rw [hr]
 refine congrArg some (hi.2 fun x x1 x2=>?_)
 obtain ⟨s,s1,t,t1,q1,q2,q3,q4⟩:=Jti ha hb he hf hg x1 x2
 rw [q1,q2]
 obtain ⟨u1,u2⟩:=hag x x2 s s1 q3.1 q3.2 t t1 q4.1 q4.2
 exact ⟨u1.symm,u2.symm⟩
theorem Jv4 {l:Je} (hO:OkL l) {list:List Ju} {k k':Kj} {w:List Jd} (h1:k'.Origin=k.Origin) (h2:k'.Steps=k.Steps++w) (hv:Wi l k.Steps) {a b:Kk}
  (ha:Jgn a) (hb:Jgn b) (ea:a.End=k.At) (pa:a.Profile=Iv (Jjw l k list) k.Origin k.At) (pb:b.Profile=Iv (Jjw l k' list) k'.Origin k'.At)
  (ha1:a.Profile.length≤128) (hb1:b.Profile.length≤128) (he:a.End≤b.End):Vc a b=some true:=by
 refine Jrw ha1 hb1 ha hb he fun x hx s hs s1 s2 u hu u1 u2=>?_
 obtain ⟨_,_,hle,_⟩:=Jwv (Jzc hO hv list).cont (by have:=ha.2.1; rw [pa,ea] at this; exact this)
 rw [pa] at hs
 rw [pb] at hu
 unfold Iv at hs hu
 obtain ⟨s0,a0,rfl⟩:=List.mem_map.1 hs
 obtain ⟨u0,b0,rfl⟩:=List.mem_map.1 hu
 simp only [Eg] at s1 s2 u1 u2 ⊢
 exact Jxz hO list h1 h2 x (by omega) s0 (List.mem_filter.1 a0).1 (by omega) (by omega) u0 (List.mem_filter.1 b0).1 (by omega) (by omega)
end PM
