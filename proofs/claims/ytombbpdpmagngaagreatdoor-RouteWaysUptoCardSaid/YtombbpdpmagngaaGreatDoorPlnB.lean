/-
 Plain laws, joined: OverA RutA RutB RutC RutS RutD RutE RutF RutG.
-/
import Derived.Test.YtombbpdpmagngaaGreatDoorPlnA
import Derived.Test.YtombbpdpmagngaaGreatDoorPlA
/-
 PLAIN, OVERLAPS: the statements OverlapFinds, OverlapMeasures and OverlapKeeps.
-/
namespace PM
open Go Go.RowKit
theorem Jt6 {α:Type} {b:Bool} {x y:α}:(bif b then some x else some y)=some (bif b then x else y):=by cases b <;> rfl
def Nj (l:Jd) (i:Int):Int:=bif Qr l i then ((l.Elements[i.toNat]?).map (·.Section)).getD (-1) else -1
theorem Wb (l:Jd) (i:Int):Qe l i=some (Nj l i):=by
 unfold Qe Nj
 simp only [Jt6,Option.bind_some,Bool.cond_true_left]
 have e:(decide (i<0)||decide (((l.Elements.length:Nat):Int)≤i)) = !Qr l i:=by
  unfold Qr; rw [Bool.eq_iff_iff]; simp
 rw [e]
 cases h:Qr l i with
 | false=>rfl
 | true =>
  obtain ⟨x,h2,h3⟩:=Ur h
  simp [h2,h3]
theorem Mp (l:Jd) (i:Int):Ya l i=some (Nj l i):=by
 unfold Ya Nj
 simp only [Jt6,Option.bind_some,Bool.cond_true_left]
 have e:(decide (i<0)||decide (((l.Elements.length:Nat):Int)≤i)) = !Qr l i:=by
  unfold Qr; rw [Bool.eq_iff_iff]; simp
 rw [e]
 cases h:Qr l i with
 | false=>rfl
 | true =>
  obtain ⟨x,h2,h3⟩:=Ur h
  simp [h2,h3]
structure FewR (r:Jl):Prop where
 pa:r.Path.length≤60
 ov:r.Over.length≤60
 se:r.Sections.length≤60
 os:r.OverSections.length≤60
 po:r.Points.length≤60
 op:r.OverPoints.length≤60
 fl:r.Flank.length≤60
 gu:r.Guards.length≤60
 ga:r.Gaps.length≤60
end PM
/-
 PLAIN, ROUTES A: what the reference's routes are (chapter 12), exactly.
-/
namespace PM
open Go Go.RowKit
/-! ### What fits -/
def zAt (l:Jd) (way:List Jb) (i:Nat):Int:=Nj l (((way[i]?).map (·.El)).getD 0)
theorem Hl {l:Jd} {way:List Jb} {i:Nat} {s:Jb} (h:way[i]? = some s):zAt l way i=Nj l s.El:=by
 unfold zAt; rw [h]; rfl
/-- Changes of the section along a way, one more than them. -/
def Rm (l:Jd) (way:List Jb):Nat→Nat
 | 0=>1
 | n+1=>if zAt l way (n+1)=zAt l way n then Rm l way n else Rm l way n+1
theorem Iw (l:Jd) (way:List Jb) (n:Nat):Rm l way (n+1)=if zAt l way (n+1)=zAt l way n then Rm l way n else Rm l way n+1:=rfl
theorem Jl5 (l:Jd) (way:List Jb):∀ n,Rm l way n≤n+1
 | 0=>Nat.le_refl _
 | n+1=>by
  have:=Jl5 l way n
  unfold Rm
  split <;> omega
def Xo (l:Jd) (e:Jg) (way:List Jb):Prop :=
 (∃ s,way[0]? = some s∧s.El=e.El∧s.In=e.Side)∧way.length≤12∧Zy l way∧Rm l way (way.length - 1)=(Zo l way).length
theorem Jpw (l:Jd) (way:List Jb) (h0:0<way.length) (h:way.length≤1000):Is (Kl (Dy l way) (1,1)) fun o=>o=.inl ((Rm l way (way.length - 1):Nat):Int):=by
 refine Is.loop (mk:=fun i (s:Int)=>(s,((i+1:Nat):Int))) (way.length - 1) (fun i s=>s=((Rm l way i:Nat):Int)) (1:Int) rfl (fun i s hi hI=>?_) (fun s hI=>?_)
 ·have h1:i+1<way.length:=by omega
  have hc:=Jl5 l way i
  simp only [Dy]
  rw [decide_eq_true (by omega),cond_true]
  refine Is.onInl (θ:=fun o=>o=.inl ((Rm l way (i+1):Nat):Int)) ?_ ?_ (fun b hb=>by cases hb)
  ·refine Is.at (List.getElem?_eq_getElem h1) ?_
   rw [Mp,Option.bind_some]
   have hw:w64 (((i+1:Nat):Int) - 1)=(i:Int):=by rw [Vy (by omega) (by omega)]; omega
   rw [hw]
   refine Is.at (List.getElem?_eq_getElem (show i<way.length by omega)) ?_
   rw [Mp,Option.bind_some]
   have e1:=Hl (l:=l) (List.getElem?_eq_getElem h1)
   have e2:=Hl (l:=l) (List.getElem?_eq_getElem (show i<way.length by omega))
   rw [← e1,← e2]
   subst hI
   refine Is.ifn Yd (fun hn=>Is.val ?_) (fun hn=>Is.val ?_)
   ·rw [Iw,if_neg hn,Ed (by omega)]
   ·rw [Iw,if_pos hn]
  ·rintro v hv
   cases hv
   refine Is.val ⟨_, ?_,rfl⟩
   have hw:w64 (((i+1:Nat):Int)+1)=((i+1+1:Nat):Int):=by rw [Vy (by omega) (by omega)]; omega
   rw [hw]
 ·simp only [Dy]
  rw [decide_eq_false (by omega),cond_false]
  exact Is.val (by rw [hI])
theorem Jr8 (l:Jd) (hj:l.Joints.length≤1048576) (e:Jg) (way:List Jb) (h:way.length≤1000):Is (Ey l e way) fun b=>b=true↔Xo l e way:=by
 unfold Ey
 refine Is.bind (Is.or Yd fun _=>Is.val Yd) fun b1 hb1=>?_
 refine Is.bind (φ:=fun b=>b=true↔(¬ (0<way.length∧way.length≤12))∨∃ s,way[0]? = some s∧s.El≠e.El) (Is.ite hb1 (fun hp=>Is.val ?_) fun hp=>?_) fun b2 hb2=>?_
 ·exact ⟨fun _=>.inl (by omega),fun _=>rfl⟩
 ·have h0:0<way.length:=by omega
  refine Is.at (i:=0) (List.getElem?_eq_getElem h0) (Is.val ?_)
  rw [Bool.not_eq_true',decide_eq_false_iff_not]
  constructor
  ·exact fun hn=>.inr ⟨_,List.getElem?_eq_getElem h0,hn⟩
  ·rintro (hn|⟨s,hs,hn⟩)
   ·omega
   ·rw [List.getElem?_eq_getElem h0] at hs; cases hs; exact hn
 refine Is.bind (φ:=fun b=>b=true↔((¬ (0<way.length∧way.length≤12))∨∃ s,way[0]? = some s∧s.El≠e.El)∨∃ s,way[0]? = some s∧s.In≠e.Side) (Is.ite hb2 (fun hp=>Is.val ?_) fun hp=>?_) fun b4 hb4=>?_
 ·exact ⟨fun _=>.inl hp,fun _=>rfl⟩
 ·have h0:0<way.length:=by
   by_cases hh:0<way.length
   ·exact hh
   ·exact absurd (.inl fun q=>hh q.1) hp
  refine Is.at (i:=0) (List.getElem?_eq_getElem h0) (Is.val ?_)
  rw [Bool.not_eq_true',decide_eq_false_iff_not]
  constructor
  ·exact fun hn=>.inr ⟨_,List.getElem?_eq_getElem h0,hn⟩
  ·rintro (hn|⟨s,hs,hn⟩)
   ·exact absurd hn hp
   ·rw [List.getElem?_eq_getElem h0] at hs; cases hs; exact hn
 refine Is.bind (Is.or (q:=¬ Zy l way) hb4 fun _=>?_) fun b6 hb6=>?_
 ·exact (Jik l way hj (by omega)).bind fun r hr=>Is.val (Tj hr)
 refine Is.ite hb6 (fun hp=>Is.val ?_) fun hp=>?_
 ·simp only [Bool.false_eq_true,false_iff]
  rintro ⟨⟨s,hs,h1,h2⟩,h3,h4,h5⟩
  have h0:=Qg hs
  rcases hp with ((hp|⟨t,ht,hp⟩)|⟨t,ht,hp⟩)|hp
  ·omega
  ·rw [hs] at ht; cases ht; exact hp h1
  ·rw [hs] at ht; cases ht; exact hp h2
  ·exact hp h4
 ·have h0:0<way.length∧way.length≤12:=by
   by_cases hh:0<way.length∧way.length≤12
   ·exact hh
   ·exact absurd (.inl (.inl (.inl hh))) hp
  refine Is.onInl (Jpw l way h0.1 h) (fun v hv=>?_) (fun b hb=>by cases hb)
  cases hv
  rw [Pp l way (by omega),Option.bind_some]
  refine Is.val ?_
  rw [decide_eq_true_iff]
  have hg:=List.getElem?_eq_getElem h0.1
  constructor
  ·intro hc
   refine ⟨⟨_,hg, ?_, ?_⟩,h0.2, ?_,by omega⟩
   ·by_cases hh:(way[0]'h0.1).El=e.El
    ·exact hh
    ·exact absurd (.inl (.inl (.inr ⟨_,hg,hh⟩))) hp
   ·by_cases hh:(way[0]'h0.1).In=e.Side
    ·exact hh
    ·exact absurd (.inl (.inr ⟨_,hg,hh⟩)) hp
   ·by_cases hh:Zy l way
    ·exact hh
    ·exact absurd (.inr hh) hp
  ·rintro ⟨_,_,_,hc⟩
   omega
/-! ### The ends of steps -/
theorem Jju {l:Jd} (h:l.Signals.length≤1048576) (e:Jg):Bl l e=some (Te l.Signals e):=by
 have:Is (Bl l e) fun r=>r=Te l.Signals e:=by
  unfold Bl
  refine Is.all (L:=l.Signals) (fun _ x=>x.At≠e) () (by omega) (fun i x hx hi hI=>?_) ?_ (fun hn=>?_)
  ·unfold Et
   refine Is.inb hi (Is.at hx (Is.ite (Em _ _) (fun hc=>Is.val ?_) fun hc=>Is.val ⟨rfl,hc⟩))
   exact (Jer hx hc hI).symm
  ·simp [Et]
  ·refine Is.val (Jko fun s hs=>?_).symm
   obtain ⟨i,hi⟩:=List.getElem?_of_mem hs
   exact hn i s hi
 obtain ⟨r,h1,rfl⟩:=this
 exact h1
def Dk (l:Jd) (b:Jb):Bool:=decide (0≤Te l.Signals ⟨b.El,b.Out⟩) || !(Qc l ⟨b.El,b.Out⟩).2
theorem Jqd {l:Jd} (h:Sm l) (b:Jb):Zu l b=some (Te l.Signals ⟨b.El,b.Out⟩,Dk l b):=by
 unfold Zu Dk
 rw [Jju h.sg,Option.bind_some,Re h.jo,Option.bind_some]
theorem Jc6 (L:List Js) (e:Jg):Te L e = -1∨(0≤Te L e∧Te L e<(L.length:Nat)):=by
 unfold Te
 cases h:L.findIdx? (fun s=>Ka s.At e) with
 | none=>exact .inl rfl
 | some i =>
  have:=(List.findIdx?_eq_some_iff_findIdx_eq.1 h).1
  exact .inr ⟨by simp,by simp; omega⟩
/-! ### The paths from an end -/
open Classical in
noncomputable def Jih (l:Jd) (e:Jg) (way:List Jb):Bool:=decide (Xo l e way)
theorem Ou {l:Jd} {e:Jg} {way:List Jb}:Jih l e way=true↔Xo l e way:=by simp [Jih]
theorem Jva {l:Jd} (hj:l.Joints.length≤1048576) (e:Jg) {way:List Jb} (h:way.length≤1000):Ey l e way=some (Jih l e way):=by
 obtain ⟨b,h1,h2⟩:=Jr8 l hj e way h
 rw [h1]
 congr 1
 rw [Bool.eq_iff_iff,h2,Ou]
/-- What a way becomes by one more step. -/
noncomputable def Nc (l:Jd) (e:Jg) (way:List Jb) (rest:Jg→List Jb→List (List Jb)) (b:Jb):List (List Jb) :=
 bif Jih l e (way++[b]) then (bif Dk l b then [way++[b]] else rest (Qc l ⟨b.El,b.Out⟩).1 (way++[b])) else []
noncomputable def Ca (l:Jd) (e:Jg):Nat→Jg→List Jb→List (List Jb)
 | 0,_,_=>[]
 | n+1,a,way=>(Vc l a).flatMap (Nc l e way (Ca l e n))
theorem Bt (l:Jd) (e:Jg) (n:Nat) (a:Jg) (way:List Jb):Ca l e (n+1) a way=(Vc l a).flatMap (Nc l e way (Ca l e n)):=rfl
theorem Dl {l:Jd} {e:Jg}:∀ {n:Nat} {a:Jg} {way p:List Jb},p∈Ca l e n a way→Xo l e p
 | 0,_,_,p,h=>by simp [Ca] at h
 | n+1,a,way,p,h=>by
  rw [Bt,List.mem_flatMap] at h
  obtain ⟨b,_,h⟩:=h
  unfold Nc at h
  cases hf:Jih l e (way++[b]) with
  | false=>rw [hf] at h; cases h
  | true =>
   rw [hf,cond_true] at h
   cases hz:Dk l b with
   | true=>rw [hz,cond_true,List.mem_singleton] at h; subst h; exact Ou.1 hf
   | false=>rw [hz,cond_false] at h; exact Dl h
theorem Dj {α β:Type} (f:α→List β) (k:Nat):∀ (L:List α),(∀ x∈L,(f x).length≤k)→(L.flatMap f).length≤L.length * k
 | [],_=>by simp
 | x::L,h=>by
  have h1:=h x (by simp)
  have h2:=Dj f k L fun y hy=>h y (by simp [hy])
  rw [List.flatMap_cons,List.length_append,List.length_cons,Nat.succ_mul]; omega
theorem Jj7 (l:Jd) (e:Jg) (way:List Jb) (n:Nat) (rest:Jg→List Jb→List (List Jb)) (h:∀ a w,(rest a w).length≤2 ^ n) (b:Jb):(Nc l e way rest b).length≤2 ^ n:=by
 have hp:1≤2 ^ n:=Nat.one_le_two_pow
 unfold Nc
 cases Jih l e (way++[b]) with
 | false=>simp
 | true =>
  cases Dk l b with
  | true=>simpa using hp
  | false=>exact h _ _
theorem Jcm (l:Jd) (e:Jg):∀ (n:Nat) (a:Jg) (way:List Jb),(Ca l e n a way).length≤2 ^ n
 | 0,_,_=>by simp [Ca]
 | n+1,a,way=>by
  have h1:=Dj (Nc l e way (Ca l e n)) (2 ^ n) (Vc l a) fun b _=>Jj7 l e way n _ (Jcm l e n) b
  rw [Bt]
  refine Nat.le_trans h1 ?_
  rw [Nat.pow_succ,Nat.mul_comm]
  exact Nat.mul_le_mul_left _ (Jbl l a)
theorem Jkz {l:Jd} (hs:Sm l) (e:Jg):∀ (n:Nat) (a0:Jw) (a:Jg) (way:List Jb),way.length≤12→13≤n+way.length→a0.L.length+2 ^ (13 - way.length)≤1099511627776 →
  Is (Uq n a0 l e a way) fun r=>r.L=a0.L++Ca l e (13 - way.length) a way
 | 0,_,_,way,h1,h2,_=>by omega
 | n+1,a0,a,way,h1,h2,h3=>by
  show Is (Uj (Uq n) a0 l e a way) _
  unfold Uj
  rw [Jc9,Option.bind_some]
  have hb:=Jbl l a
  have hp:2 ^ (13 - way.length)=2 * 2 ^ (12 - way.length):=by
   rw [show 13 - way.length=(12 - way.length)+1 by omega,Nat.pow_succ]; omega
  have hq:1≤2 ^ (12 - way.length):=Nat.one_le_two_pow
  rw [show 13 - way.length=(12 - way.length)+1 by omega,Bt]
  generalize hg:Nc l e way (Ca l e (12 - way.length))=g
  have hlen:∀ b,(g b).length≤2 ^ (12 - way.length):=fun b=>by rw [← hg]; exact Jj7 l e way _ _ (Jcm l e _) b
  refine Is.onInl (θ:=fun o=>o=.inl (a0.L++(Vc l a).flatMap g)) ?_ (fun v hv=>?_) (fun b hb=>by cases hb)
  ·refine Is.loop (mk:=fun i (s:List (List Jb))=>((i:Int),s)) (Vc l a).length (fun i s=>s=a0.L++((Vc l a).take i).flatMap g) a0.L (by simp) (fun i s hi hI=>?_) (fun s hI=>?_)
   ·have hi3:(i+1) * 2 ^ (12 - way.length)=i * 2 ^ (12 - way.length)+2 ^ (12 - way.length):=Nat.succ_mul _ _
    have hi2:i * 2 ^ (12 - way.length)≤1 * 2 ^ (12 - way.length):=Nat.mul_le_mul_right _ (by omega)
    have hsl:s.length≤a0.L.length+i * 2 ^ (12 - way.length):=by
     have h4:=Dj g (2 ^ (12 - way.length)) ((Vc l a).take i) fun b _=>hlen b
     rw [List.length_take,Nat.min_eq_left (by omega)] at h4
     rw [hI,List.length_append]; omega
    have hx:=List.getElem?_eq_getElem hi
    have htk:((Vc l a).take (i+1)).flatMap g=((Vc l a).take i).flatMap g++g (Vc l a)[i]:=by
     rw [List.take_add_one,hx,Option.toList_some,List.flatMap_append]; simp
    simp only [Yg]
    rw [decide_eq_true (by omega),cond_true]
    refine Is.onInl (θ:=fun o=>o=.inl (a0.L++((Vc l a).take (i+1)).flatMap g)) ?_ (fun v hv=>?_) (fun b hb=>by cases hb)
    ·refine Is.bind (Is.app (by simp only [List.length_nil,Kn,Enc.b]; omega)) fun M hM=>?_
     rw [hM,List.nil_append]
     refine Is.at hx ?_
     refine Is.bind (Is.app (by simp only [List.length_cons,List.length_nil,Kn,Enc.b]; omega)) fun M hM=>?_
     subst hM
     have hlen2:(way++[(Vc l a)[i]]).length=way.length+1:=by simp
     rw [htk,← List.append_assoc,← hI,← hg]
     unfold Nc
     rw [Jva hs.jo e (by omega),Option.bind_some]
     cases hft:Jih l e (way++[(Vc l a)[i]]) with
     | false=>exact Is.val (by rw [cond_false,List.append_nil])
     | true =>
      simp only [Bool.not_true,cond_false,cond_true]
      refine Is.at hx ?_
      rw [Jqd hs,Option.bind_some]
      show Is (bif Dk l (Vc l a)[i] then _ else _) _
      cases hend:Dk l (Vc l a)[i] with
      | true =>
       simp only [cond_true]
       refine Is.bind (Is.app (by simp only [List.length_cons,List.length_nil,Kn,Enc.b]; omega)) fun M hM=>?_
       subst hM
       exact Is.val rfl
      | false =>
       simp only [cond_false]
       refine Is.at hx ?_
       rw [Re hs.jo,Option.bind_some]
       have f2:=(Ou.1 hft).2.1
       refine (Jkz hs e n ⟨s⟩ _ _ f2 (by omega) (by show s.length+_≤_; rw [hlen2,show 13 - (way.length+1)=12 - way.length by omega]; omega)).bind fun r hr=>?_
       rw [hlen2,show 13 - (way.length+1)=12 - way.length by omega] at hr
       exact Is.val (by rw [hr])
    ·cases hv
     exact Is.val ⟨_,by rw [Vy (by omega) (by omega)]; rfl,rfl⟩
   ·simp only [Yg]
    rw [decide_eq_false (by omega),cond_false]
    exact Is.val (by rw [hI,List.take_length])
  ·cases hv
   exact Is.val rfl
end PM
/-
 PLAIN, ROUTES B: the reference's routes that begin at a signal, and all of them, exactly.
-/
namespace PM
open Go Go.RowKit
theorem Is.sadd {a b:ByteArray} (h:a.size+b.size≤9223372036854775807):Is (Pb a b) fun M=>M=a++b:=⟨a++b,by unfold Pb; rw [if_pos h],rfl⟩
def sgN (l:Jd) (i:Int):ByteArray:=((l.Signals[i.toNat]?).map (·.Name)).getD ByteArray.empty
def Ju4 : ByteArray:=ByteArray.mk #[45,101,110,100]
def Pc : ByteArray:=ByteArray.mk #[45]
def Jpd : ByteArray:=ByteArray.mk #[46]
/-- The name of a route, without a number. -/
def Yh (l:Jd) (i x:Int):ByteArray:=if x<0 then sgN l i++Ju4 else sgN l i++Pc++sgN l x
theorem Ni {l:Jd} {i:Int} {y:Js} (h:l.Signals[i.toNat]? = some y):sgN l i=y.Name:=by unfold sgN; rw [h]; rfl
theorem Oz {l:Jd} (h:Sm l) (i:Int):(sgN l i).size≤1048576:=by
 unfold sgN
 cases hy:l.Signals[i.toNat]? with
 | none=>simp
 | some y=>exact h.sgn y (List.mem_of_getElem? hy)
theorem Jh2 {l:Jd} (h:Sm l) (i x:Int):(Yh l i x).size≤3000000:=by
 have h1:=Oz h i
 have h2:=Oz h x
 have h3:Ju4.size=4:=rfl
 have h4:Pc.size=1:=rfl
 unfold Yh
 split
 ·rw [ByteArray.size_append]; omega
 ·rw [ByteArray.size_append,ByteArray.size_append]; omega
theorem Jmk {l:Jd} (h:Sm l) {i x:Int} (hi:0≤i∧i<(l.Signals.length:Nat)) (hx:x = -1∨(0≤x∧x<(l.Signals.length:Nat))):Vg l i x=some (Yh l i x):=by
 have:Is (Vg l i x) fun M=>M=Yh l i x:=by
  unfold Vg Yh
  have h1:=Oz h i
  have h2:=Oz h x
  have h3:Ju4.size=4:=rfl
  have h4:Pc.size=1:=rfl
  refine Is.cond (fun h0=>?_) fun h0=>?_
  ·rw [if_pos (of_decide_eq_true h0)]
   refine (Is.ix hi.1 hi.2).bind fun y hy=>?_
   rw [← Ni hy]
   exact (Is.sadd (b:=Ju4) (by rw [h3]; omega)).bind fun M hM=>Is.val hM
  ·rw [if_neg (of_decide_eq_false h0)]
   have h0:=of_decide_eq_false h0
   refine (Is.ix hi.1 hi.2).bind fun y hy=>?_
   rw [← Ni hy]
   refine (Is.sadd (b:=Pc) (by rw [h4]; omega)).bind fun M hM=>?_
   have hM1:M.size=(sgN l i).size+1:=by rw [hM,ByteArray.size_append,h4]
   refine (Is.ix (by omega) (by omega)).bind fun z hz=>?_
   rw [← Ni hz]
   exact (Is.sadd (by omega)).bind fun M' hM'=>Is.val (by rw [hM',hM])
 obtain ⟨M,h1,rfl⟩:=this
 exact h1
theorem Jpb {n:Int} (h0:0≤n) (h1:n<1000000):Is (Ui n) fun M=>M.size≤6:=by
 unfold Ui
 refine Is.onInl (θ:=fun o=>∃ M,o=.inl M∧M.size≤6) ?_ (fun v hv=>?_) (fun b hb=>by obtain ⟨x,hx,_⟩:=hb; cases hx)
 ·refine Is.loop (mk:=fun _ (s:Int×ByteArray)=>s) 6 (fun i s=>0≤s.1∧s.1<10 ^ (6 - i)∧s.2.size≤i) (n,ByteArray.empty) ⟨h0,h1,Nat.le_refl _⟩ (fun i s hi hI=>?_) (fun s hI=>?_)
  ·obtain ⟨x,b⟩:=s
   obtain ⟨g1,g2,g3⟩:=hI
   simp only at g1 g2 g3
   simp only [Wv]
   refine Is.cond (fun hx=>?_) fun _=>Is.val ⟨b,rfl,by omega⟩
   have hx:=of_decide_eq_true hx
   have hs:∀ y:Int,(bytesOf [y]).size=1:=fun y=>rfl
   have hp:(10:Int) ^ (6 - i)=10 ^ (6 - (i+1)) * 10:=by rw [show 6 - i=(6 - (i+1))+1 by omega,Int.pow_succ]
   have hle:(10:Int) ^ (6 - i)≤1000000:=by
    have:i=0∨i=1∨i=2∨i=3∨i=4∨i=5:=by omega
    rcases this with rfl|rfl|rfl|rfl|rfl|rfl <;> decide
   refine (Is.sadd (by rw [hs]; omega)).bind fun M hM=>Is.val ⟨(w64 (x.tdiv 10),M),rfl, ?_⟩
   have hd:x.tdiv 10=x / 10:=Int.tdiv_eq_ediv_of_nonneg g1
   have hw:w64 (x.tdiv 10)=x / 10:=by rw [hd]; exact Vy (by omega) (by omega)
   refine ⟨by simp only [hw]; omega,by simp only [hw]; omega, ?_⟩
   simp only [hM,ByteArray.size_append,hs]; omega
  ·obtain ⟨x,b⟩:=s
   obtain ⟨g1,g2,g3⟩:=hI
   simp only at g1 g2 g3
   simp only [Wv]
   rw [decide_eq_false (by simp at g2; omega),cond_false]
   exact Is.val ⟨b,rfl,g3⟩
 ·obtain ⟨M,e1,e2⟩:=hv
  cases e1
  exact Is.val e2
/-- The digits of a number. -/
noncomputable def Jrm (n:Nat):ByteArray:=(Ui (n:Int)).getD ByteArray.empty
theorem Jil {n:Nat} (h:n<1000000):Ui (n:Int)=some (Jrm n)∧(Jrm n).size≤6:=by
 obtain ⟨M,h1,h2⟩:=Jpb (n:=(n:Int)) (by omega) (by omega)
 unfold Jrm
 rw [h1]
 exact ⟨rfl,h2⟩
/-! ### The routes of a signal -/
def Jfz (p:List Jb):Jg:=match p.getLast? with|some s=>⟨s.El,s.Out⟩|none=>⟨0,0⟩
def Qj (l:Jd) (p:List Jb):Int:=Te l.Signals (Jfz p)
def Qh (P:List (List Jb)) (k:Nat):List Jb:=(P[k]?).getD []
/-- How many of the first k + 1 paths have the name of the path k. -/
def Xr (l:Jd) (i:Int) (P:List (List Jb)) (x:Int):Nat→Nat
 | 0=>1
 | k+1=>if Yh l i (Qj l (Qh P k))=Yh l i x then Xr l i P x k+1 else Xr l i P x k
theorem Je2 (l:Jd) (i:Int) (P:List (List Jb)) (x:Int) (k:Nat):Xr l i P x (k+1)=if Yh l i (Qj l (Qh P k))=Yh l i x then Xr l i P x k+1 else Xr l i P x k:=rfl
theorem Jg6 (l:Jd) (i:Int) (P:List (List Jb)) (x:Int):∀ k,Xr l i P x k≤k+1
 | 0=>Nat.le_refl _
 | k+1=>by
  have:=Jg6 l i P x k
  rw [Je2]
  split <;> omega
noncomputable def Xx (l:Jd) (i:Int) (P:List (List Jb)) (k:Nat):ByteArray :=
 if 1<Xr l i P (Qj l (Qh P k)) k then Yh l i (Qj l (Qh P k))++Jpd++Jrm (Xr l i P (Qj l (Qh P k)) k) else Yh l i (Qj l (Qh P k))
def atS (l:Jd) (i:Int):Jg:=((l.Signals[i.toNat]?).map (·.At)).getD ⟨0,0⟩
noncomputable def Jfh (l:Jd) (i:Int) (P:List (List Jb)) (k:Nat):Jl :=
 Jl.mk (Xx l i P k) i (Qj l (Qh P k)) (Qh P k) (Jjy l (Qh P k)) (Zo l (Qh P k)) (Nj l (atS l i).El) (w64 (Ov l (Qh P k))) [] [] [] [] [] []
noncomputable def Ub (l:Jd) (i:Int):List (List Jb):=Ca l (Qc l (atS l i)).1 13 (Qc l (atS l i)).1 []
noncomputable def Wh (l:Jd) (i:Int):List Jl :=
 if 0≤i∧i<(l.Signals.length:Nat) then (if (Qc l (atS l i)).2=true then (List.range (Ub l i).length).map (Jfh l i (Ub l i)) else []) else []
theorem Gt (l:Jd) (i:Int):(Ub l i).length≤8192:=Jcm l _ 13 _ _
theorem Le (l:Jd) (i:Int):(Wh l i).length≤8192:=by
 have:=Gt l i
 unfold Wh
 split
 ·split
  ·simpa using this
  ·simp
 ·simp
theorem Iz {P:List (List Jb)} {k:Nat} (h:k<P.length):P[k]? = some (Qh P k):=by
 unfold Qh; rw [List.getElem?_eq_getElem h]; rfl
theorem Jdt {p:List Jb} (h:0<p.length) (h2:p.length≤1000):∃ s,p.getLast? = some s∧ixO p (w64 (((p.length:Nat):Int) - 1))=some s:=by
 have hw:w64 (((p.length:Nat):Int) - 1)=((p.length - 1:Nat):Int):=by rw [Vy (by omega) (by omega)]; omega
 rw [hw,List.getLast?_eq_getElem?]
 have:=List.getElem?_eq_getElem (l:=p) (i:=p.length - 1) (by omega)
 exact ⟨_,this,Ng this⟩
theorem Jkd {l:Jd} (h:Sm l) {p:List Jb} {s:Jb} (hs:p.getLast? = some s):Zu l s=some (Qj l p,Dk l s):=by
 rw [Jqd h]
 unfold Qj Jfz
 rw [hs]
theorem Jtq {l:Jd} (h:Sm l) {i:Int} (hi:0≤i∧i<(l.Signals.length:Nat)) {P:List (List Jb)} (hP:∀ p∈P,0<p.length∧p.length≤12) (r:Jw) (hr:r.L=P) (k:Nat) (hk:k<P.length) (hk2:P.length≤8192) (x:Int) (z:Bool) (hx:x = -1∨(0≤x∧x<(l.Signals.length:Nat))) :
  Is (Kl (Dx l i r (k:Int) (x,z)) (1,0)) fun o=>o=.inl ((Xr l i P x k:Nat):Int):=by
 refine Is.loop (mk:=fun j (s:Int)=>(s,(j:Int))) k (fun j s=>s=((Xr l i P x j:Nat):Int)) (1:Int) rfl (fun j s hj hI=>?_) (fun s hI=>?_)
 ·have hc:=Jg6 l i P x j
  have hjP:j<P.length:=by omega
  have hN:(((r.L:List (List Jb)).map cellsOf).length)=P.length:=by rw [List.length_map,hr]
  simp only [Dx]
  rw [decide_eq_true (by omega),cond_true]
  refine Is.onInl (θ:=fun o=>o=.inl ((Xr l i P x (j+1):Nat):Int)) ?_ (fun v hv=>?_) (fun b hb=>by cases hb)
  ·have hg:=Iz hjP
   have hld:Pw r.L (((r.L:List (List Jb)).map cellsOf).length) j=some (Qh P j):=by rw [Jbd (by rw [List.length_map]),hr]; exact hg
   have hxi:Rl 0 (((r.L:List (List Jb)).map cellsOf).length) (j:Int)=some j:=by rw [Ii 0 (by rw [hN]; exact hjP),Nat.zero_add]
   have hp:=hP _ (List.mem_of_getElem? hg)
   obtain ⟨s1,e1,e2⟩:=Jdt hp.1 (by omega)
   simp only [hxi,hld,Option.bind_some]
   rw [e2,Option.bind_some,Jkd h e1,Option.bind_some]
   have hex:Qj l (Qh P j) = -1∨(0≤Qj l (Qh P j)∧Qj l (Qh P j)<(l.Signals.length:Nat)):=Jc6 l.Signals (Jfz (Qh P j))
   show Is ((Vg l i (Qj l (Qh P j))).bind _) _
   rw [Jmk h hi hex,Option.bind_some]
   show Is ((Vg l i x).bind _) _
   rw [Jmk h hi hx,Option.bind_some,Je2]
   refine Is.ite Yd (fun he=>Is.val ?_) (fun he=>Is.val ?_)
   ·rw [if_pos he,hI,Ed (by omega)]
   ·rw [if_neg he,hI]
  ·cases hv
   exact Is.val ⟨_,by rw [Ed (by omega)],rfl⟩
 ·simp only [Dx]
  rw [decide_eq_false (by omega),cond_false]
  exact Is.val (by rw [hI])
theorem Jq3 {l:Jd} (h:Sm l) (i:Int):Zt l i=some (Wh l i):=by
 have:Is (Zt l i) fun r=>r=Wh l i:=by
  unfold Zt
  refine Is.bind (φ:=fun b=>b=true↔(i<0∨((l.Signals.length:Nat):Int)≤i)) (Is.or Yd fun _=>Is.val Yd) fun b hb=>?_
  refine Is.ite hb (fun hp=>Is.val ?_) fun hp=>?_
  ·unfold Wh; rw [if_neg (by omega)]
  have hi:0≤i∧i<(l.Signals.length:Nat):=by omega
  refine (Is.ix hi.1 hi.2).bind fun y hy=>?_
  have hat:atS l i=y.At:=by unfold atS; rw [hy]; rfl
  rw [Mr h.jo,Option.bind_some,← hat]
  unfold Wh
  rw [if_pos hi]
  cases hj:(Qc l (atS l i)).2 with
  | false=>exact Is.val (by rw [if_neg (by simp)])
  | true =>
   rw [if_pos rfl]
   simp only [Bool.not_true,cond_false]
   have hse:=Jkz h (Qc l (atS l i)).1 (Hw+1) ⟨[]⟩ (Qc l (atS l i)).1 [] (by simp) (by unfold Hw; simp) (by simp)
   have hse:Is (Dr ⟨[]⟩ l (Qc l (atS l i)).1 (Qc l (atS l i)).1 []) _:=hse
   refine hse.bind fun r hr=>?_
   have hr:r.L=Ub l i:=hr
   have hPl:=Gt l i
   have hP:∀ p∈Ub l i,0<p.length∧p.length≤12:=fun p hp=>by
    obtain ⟨⟨s,hs,_⟩,h2,_⟩:=Dl hp
    exact ⟨Qg hs,h2⟩
   generalize Ub l i=P at hr hPl hP
   have hN:(((r.L:List (List Jb)).map cellsOf).length)=P.length:=by rw [List.length_map,hr]
   refine Is.onInl (θ:=fun o=>o=.inl ((List.range P.length).map (Jfh l i P))) ?_ (fun v hv=>?_) (fun b hb=>by cases hb)
   ·refine Is.loop (mk:=fun k (s:List Jl)=>((k:Int),s)) P.length (fun k s=>s=(List.range k).map (Jfh l i P)) [] rfl (fun k s hk hI=>?_) (fun s hI=>?_)
    ·have hg:=Iz hk
     have hsl:s.length=k:=by rw [hI]; simp
     have hld:Pw r.L (((r.L:List (List Jb)).map cellsOf).length) k=some (Qh P k):=by rw [Jbd (by rw [List.length_map]),hr]; exact hg
     have hxi:Rl 0 (((r.L:List (List Jb)).map cellsOf).length) (k:Int)=some k:=by rw [Ii 0 (by rw [hN]; exact hk),Nat.zero_add]
     have hp:=hP _ (List.mem_of_getElem? hg)
     obtain ⟨s1,e1,e2⟩:=Jdt hp.1 (by omega)
     have hex:Qj l (Qh P k) = -1∨(0≤Qj l (Qh P k)∧Qj l (Qh P k)<(l.Signals.length:Nat)):=Jc6 l.Signals (Jfz (Qh P k))
     have hc:=Jg6 l i P (Qj l (Qh P k)) k
     have hts:=Jh2 h i (Qj l (Qh P k))
     simp only [Hz]
     rw [decide_eq_true (by rw [hN]; omega),cond_true,hxi,Option.bind_some,hld,Option.bind_some,e2,Option.bind_some,Jkd h e1,Option.bind_some]
     show Is ((Vg l i (Qj l (Qh P k))).bind _) _
     rw [Jmk h hi hex,Option.bind_some,Jdh l _ (by omega),Option.bind_some,Pp l _ (by omega),Option.bind_some,Jgq l _ (by omega),Option.bind_some]
     refine (Is.eq (show ixO l.Signals i=some y from ?_)).bind fun y' hy'=>?_
     ·have:=Is.ix (L:=l.Signals) hi.1 hi.2
      obtain ⟨z,z1,z2⟩:=this
      rw [hy] at z2; cases z2; exact z1
     subst hy'
     rw [Mp,Option.bind_some]
     refine Is.onInl (Jtq h hi hP r hr k hk hPl (Qj l (Qh P k)) _ hex) (fun v hv=>?_) (fun b hb=>by cases hb)
     cases hv
     refine Is.onInl (θ:=fun o=>o=.inl (Xx l i P k)) ?_ (fun v hv=>?_) (fun b hb=>by cases hb)
     ·unfold Xx
      refine Is.cond (fun h1=>?_) fun h1=>?_
      ·have h1:=of_decide_eq_true h1
       rw [if_pos (by omega)]
       have h4:Jpd.size=1:=rfl
       refine (Is.sadd (b:=Jpd) (by rw [h4]; omega)).bind fun M hM=>?_
       have hM1:M.size≤3000001:=by rw [hM,ByteArray.size_append,h4]; omega
       obtain ⟨d1,d2⟩:=Jil (n:=Xr l i P (Qj l (Qh P k)) k) (by omega)
       rw [d1,Option.bind_some]
       refine (Is.sadd (by omega)).bind fun M' hM'=>Is.val ?_
       rw [hM',hM]
      ·have h1:=of_decide_eq_false h1
       rw [if_neg (by omega)]
       exact Is.val rfl
     ·cases hv
      refine (Is.app (by simp only [List.length_cons,List.length_nil,Kn,Enc.b]; omega)).bind fun M hM=>?_
      refine Is.val ⟨_,by rw [Ed (by omega)], ?_⟩
      rw [hM,hI,List.range_succ,List.map_append,← hat]
      rfl
    ·simp only [Hz]
     rw [decide_eq_false (by rw [hN]; omega),cond_false]
     exact Is.val (by rw [hI])
   ·cases hv
    exact Is.val rfl
 obtain ⟨r,h1,rfl⟩:=this
 exact h1
noncomputable def Rf (l:Jd):List Jl:=(List.range l.Signals.length).flatMap fun i=>Wh l (i:Nat)
theorem Jwe {l:Jd} (h:Sm l):Gx l=some (if chk l=0 then (if 48<(Rf l).length then ([],2) else (Rf l,0)) else ([],chk l)):=by
 have:Is (Gx l) fun r=>r=(if chk l=0 then (if 48<(Rf l).length then ([],2) else (Rf l,0)) else ([],chk l)):=by
  unfold Gx
  rw [Ns h,Option.bind_some]
  refine Is.ifn Yd (fun h0=>Is.val (by rw [if_neg h0])) fun h0=>?_
  rw [if_pos h0]
  have hsg:=h.sg
  refine Is.onInl (θ:=fun o=>o=.inl (Rf l)) ?_ (fun v hv=>?_) (fun b hb=>by cases hb)
  ·refine Is.loop (mk:=fun k (s:List Jl)=>((k:Int),s)) l.Signals.length (fun k s=>s=(List.range k).flatMap fun i=>Wh l (i:Nat)) [] rfl (fun k s hk hI=>?_) (fun s hI=>?_)
   ·have hsl:=Dj (fun i:Nat=>Wh l (i:Int)) 8192 (List.range k) fun i _=>Le l _
    rw [← hI,List.length_range] at hsl
    have hf:=Le l (k:Int)
    simp only [Lt]
    rw [decide_eq_true (by omega),cond_true,Jq3 h,Option.bind_some]
    refine (Is.app (by simp only [Kn,Enc.b]; omega)).bind fun M hM=>?_
    refine Is.val ⟨_,by rw [Ed (by omega)], ?_⟩
    rw [hM,hI,List.range_succ,List.flatMap_append]; simp
   ·simp only [Lt]
    rw [decide_eq_false (by omega),cond_false]
    exact Is.val (by rw [hI]; rfl)
  ·cases hv
   refine Is.cond (fun h1=>Is.val ?_) fun h1=>Is.val ?_
   ·have h1:=of_decide_eq_true h1
    rw [if_pos (by omega)]
   ·have h1:=of_decide_eq_false h1
    rw [if_neg (by omega)]
 obtain ⟨r,h1,rfl⟩:=this
 exact h1
end PM
/-
 PLAIN, ROUTES C: a search that looks ahead (elements that stand in the path, sections that were left) finds the paths that fit.
-/
namespace PM
open Go Go.RowKit
/-- An element can be the next one of a path: it is not in it, and its section was not left. -/
def Jqw (l:Jd) (way:List Jb) (el:Int):Prop :=
 ∀ i s,way[i]? = some s→s.El≠el∧(0<i→zAt l way (i - 1)=Nj l el→zAt l way i=Nj l el)
open Classical in
noncomputable def Se (l:Jd) (way:List Jb) (el:Int):Bool:=decide (Jqw l way el)
theorem Jk0 {l:Jd} {way:List Jb} {el:Int}:Se l way el=true↔Jqw l way el:=by simp [Se]
/-- What a path becomes by one more step. -/
noncomputable def Jnc (l:Jd) (way:List Jb) (rest:Jg→List Jb→List (List Jb)) (b:Jb):List (List Jb) :=
 bif Dk l b then [way++[b]] else rest (Qc l ⟨b.El,b.Out⟩).1 (way++[b])
noncomputable def Gg (l:Jd):Nat→Jg→List Jb→List (List Jb)
 | 0,_,_=>[]
 | n+1,a,way=>bif decide (way.length<12)&&Se l way a.El then (Vc l a).flatMap (Jnc l way (Gg l n)) else []
theorem Sq (l:Jd) (n:Nat) (a:Jg) (way:List Jb):Gg l (n+1) a way=bif decide (way.length<12)&&Se l way a.El then (Vc l a).flatMap (Jnc l way (Gg l n)) else []:=rfl
/-! ### Sections that stand together -/
def Rc (l:Jd) (way:List Jb):Prop:=∀ s∈way,Qr l s.El=true
theorem Zy.hasA {l:Jd} {way:List Jb} (h:Zy l way):Rc l way:=by
 intro s hs
 obtain ⟨i,hi⟩:=List.getElem?_of_mem hs
 obtain ⟨t,g1,g2,_⟩:=h.2.2 i (Qg hi)
 rw [hi] at g1; cases g1
 exact Jmj g2
theorem Hi {l:Jd} {way:List Jb} (h:Rc l way) {i:Nat} {s:Jb} (hs:way[i]? = some s) :
  Zo l (way.take (i+1))=if zAt l way i∈Zo l (way.take i) then Zo l (way.take i) else Zo l (way.take i)++[zAt l way i]:=by
 rw [Vn hs,Jex,secZ_of' (h s (List.mem_of_getElem? hs)),Hl hs]
 where
 secZ_of' {l:Jd} {s:Jb} (h:Qr l s.El=true):Xd l s=some (Nj l s.El):=by
  obtain ⟨x,h1,h2⟩:=Ur h
  unfold Xd Nj
  rw [h,h2]; rfl
theorem Jg9 {l:Jd} {way:List Jb} (h:Rc l way) {i n:Nat} (hi:i<n) (hn:n≤way.length):zAt l way i∈Zo l (way.take n):=by
 have hg:=List.getElem?_eq_getElem (l:=way) (i:=i) (by omega)
 rw [Jnr]
 refine ⟨_,List.mem_of_getElem? (i:=i) (by rw [List.getElem?_take,if_pos hi]; exact hg), ?_⟩
 rw [Hl hg]
 exact Hi.secZ_of' (h _ (List.mem_of_getElem? hg))
theorem Juw {l:Jd} {way:List Jb} (h:Rc l way) {n:Nat} {z:Int} (hz:z∈Zo l (way.take n)):∃ i,i<n∧i<way.length∧zAt l way i=z:=by
 rw [Jnr] at hz
 obtain ⟨s,hs,he⟩:=hz
 obtain ⟨i,hi⟩:=List.getElem?_of_mem hs
 rw [List.getElem?_take] at hi
 split at hi
 ·rename_i hin
  refine ⟨i,hin,Qg hi, ?_⟩
  rw [Hl hi]
  rw [Hi.secZ_of' (h _ (List.mem_of_getElem? hi))] at he
  exact Option.some.inj he
 ·cases hi
/-- Each change of the section is one to a section that was not there. -/
def Jnn (l:Jd) (way:List Jb):Prop:=∀ i,i+1<way.length→zAt l way (i+1)≠zAt l way i→zAt l way (i+1)∉Zo l (way.take (i+1))
theorem Jtt {l:Jd} {way:List Jb} (h:Rc l way):∀ n,n<way.length→(Zo l (way.take (n+1))).length≤Rm l way n
 | 0,hn=>by
  have:=Jdl l (way.take 1)
  rw [List.length_take] at this
  show (Zo l (way.take 1)).length≤1
  omega
 | n+1,hn=>by
  have ih:=Jtt h n (by omega)
  rw [Hi h (List.getElem?_eq_getElem hn),Iw]
  by_cases e:zAt l way (n+1)=zAt l way n
  ·rw [if_pos (by rw [e]; exact Jg9 h (by omega) (by omega)),if_pos e]
   exact ih
  ·rw [if_neg e]
   split
   ·omega
   ·rw [List.length_append,List.length_singleton]; omega
theorem Jpe {l:Jd} {way:List Jb} (h:Rc l way):∀ n,n<way.length→Rm l way n=(Zo l (way.take (n+1))).length→∀ i,i<n→zAt l way (i+1)≠zAt l way i→zAt l way (i+1)∉Zo l (way.take (i+1))
 | 0,_,_,i,hi,_=>by omega
 | n+1,hn,he,i,hi,hne=>by
  have ih:=Jtt h n (by omega)
  rw [Hi h (List.getElem?_eq_getElem hn),Iw] at he
  have hin:i=n∨i<n:=by omega
  by_cases e:zAt l way (n+1)=zAt l way n
  ·rw [if_pos e,if_pos (by rw [e]; exact Jg9 h (by omega) (by omega))] at he
   rcases hin with rfl|hin
   ·exact absurd e hne
   ·exact Jpe h n (by omega) he i hin hne
  ·rw [if_neg e] at he
   by_cases hm:zAt l way (n+1)∈Zo l (way.take (n+1))
   ·rw [if_pos hm] at he; omega
   ·rw [if_neg hm,List.length_append,List.length_singleton] at he
    rcases hin with rfl|hin
    ·exact hm
    ·exact Jpe h n (by omega) (by omega) i hin hne
theorem Jr7 {l:Jd} {way:List Jb} (h:Rc l way) (ht:Jnn l way):∀ n,n<way.length→Rm l way n=(Zo l (way.take (n+1))).length
 | 0,hn=>by
  rw [Hi h (List.getElem?_eq_getElem hn)]
  simp [Rm,Zo,Tw]
 | n+1,hn=>by
  have ih:=Jr7 h ht n (by omega)
  rw [Hi h (List.getElem?_eq_getElem hn),Iw]
  by_cases e:zAt l way (n+1)=zAt l way n
  ·rw [if_pos e,if_pos (by rw [e]; exact Jg9 h (by omega) (by omega)),ih]
  ·rw [if_neg e,if_neg (ht n hn e),List.length_append,List.length_singleton,ih]
theorem Fc {l:Jd} {way:List Jb} (h:Rc l way) (h0:0<way.length):Rm l way (way.length - 1)=(Zo l way).length↔Jnn l way:=by
 constructor
 ·intro he i hi
  refine Jpe h (way.length - 1) (by omega) ?_ i (by omega)
  rw [show way.length - 1+1=way.length by omega,List.take_length]; exact he
 ·intro ht
  have:=Jr7 h ht (way.length - 1) (by omega)
  rwa [show way.length - 1+1=way.length by omega,List.take_length] at this
theorem Ja2 {l:Jd} {way:List Jb} {b:Jb} {i:Nat} (h:i<way.length):zAt l (way++[b]) i=zAt l way i:=by
 unfold zAt; rw [List.getElem?_append_left h]
theorem Jqc {l:Jd} {way:List Jb} {b:Jb}:zAt l (way++[b]) way.length=Nj l b.El:=by
 rw [Hl (s:=b) (by simp)]
/-- A path that fits goes on by a step exactly if the step's element can be the next one. -/
theorem Jsv {l:Jd} {e a:Jg} {way:List Jb} (hf:Xo l e way) {p b:Jb} (hp:way.getLast? = some p) (ha:Qc l ⟨p.El,p.Out⟩=(a,true)) (hb:b∈Vc l a) :
  Xo l e (way++[b])↔way.length<12∧Jqw l way a.El:=by
 obtain ⟨⟨s,s0,s1,s2⟩,hlen,hv,hc⟩:=hf
 obtain ⟨b1,b2,b3⟩:=Jff hb
 have h0:=Qg s0
 have hp':way[way.length - 1]? = some p:=by rw [← List.getLast?_eq_getElem?]; exact hp
 have hvm:=Jon hv (by omega) hp' ha hb
 have hh:=hv.hasA
 have ht:=(Fc hh h0).1 hc
 have hhb:Qr l b.El=true:=Jmj b3
 have hh2:Rc l (way++[b]):=fun t ht'=>by
  rcases List.mem_append.1 ht' with h|h
  ·exact hh t h
  ·rw [List.mem_singleton] at h; subst h; exact hhb
 have hl2:(way++[b]).length=way.length+1:=by simp
 constructor
 ·rintro ⟨_,c2,c3,c4⟩
  rw [hl2] at c2
  have hd:=hvm.1 c3
  have ht2:=(Fc hh2 (by omega)).1 c4
  refine ⟨by omega,fun i t hi=>⟨hd t (List.mem_of_getElem? hi),fun hi0 he=>?_⟩⟩
  have hil:=Qg hi
  rw [← b1] at he ⊢
  by_cases hne:zAt l way i=Nj l b.El
  ·exact hne
  ·exfalso
   have key:∀ j,i≤j→j≤way.length→zAt l (way++[b]) j≠Nj l b.El:=by
    intro j hij
    induction j with
    | zero=>omega
    | succ j ih =>
     intro hj
     by_cases hij':i=j+1
     ·subst hij'; rw [Ja2 hil]; exact hne
     ·have ih':=ih (by omega) (by omega)
      intro hej
      have:=ht2 j (by omega) (by rw [hej]; exact fun q=>ih' q.symm)
      rw [hej] at this
      refine this ?_
      have hm:=Jg9 hh2 (i:=i - 1) (n:=j+1) (by omega) (by omega)
      rwa [Ja2 (by omega),he] at hm
   exact key way.length (by omega) (Nat.le_refl _) Jqc
 ·rintro ⟨c1,c2⟩
  refine ⟨⟨s,by rw [List.getElem?_append_left h0]; exact s0,s1,s2⟩,by omega,hvm.2 fun t ht'=>?_, ?_⟩
  ·obtain ⟨i,hi⟩:=List.getElem?_of_mem ht'
   exact (c2 i t hi).1
  ·refine (Fc hh2 (by omega)).2 fun i hi hne=>?_
   rw [List.take_append_of_le_length (by omega)]
   by_cases hil:i+1<way.length
   ·rw [Ja2 hil] at hne ⊢
    rw [Ja2 (by omega)] at hne
    exact ht i hil hne
   ·have hie:i+1=way.length:=by omega
    rw [hie,Jqc] at hne ⊢
    rw [Ja2 (by omega)] at hne
    intro hm
    obtain ⟨k,k1,k2,k3⟩:=Juw hh hm
    have key:∀ j,k≤j→j<way.length→zAt l way j=Nj l b.El:=by
     intro j hkj
     induction j with
     | zero=>intro _; rw [show 0=k by omega]; exact k3
     | succ j ih =>
      intro hj
      by_cases hkj':k=j+1
      ·rw [← hkj']; exact k3
      ·have ih':=ih (by omega) (by omega)
       have:=(c2 (j+1) _ (List.getElem?_eq_getElem hj)).2 (by omega)
       rw [← b1] at this
       exact this ih'
    exact hne (key i (by omega) (by omega)).symm
theorem Juz {l:Jd} {e:Jg} {b:Jb} (hb:b∈Vc l e):Xo l e [b]:=by
 obtain ⟨b1,b2,b3⟩:=Jff hb
 have hv:Zy l [b]:=⟨by simp,by simp,fun i hi=>by
  have:i=0:=by simp at hi; omega
  subst this
  exact ⟨b,rfl,b3,fun k t hk _=>by omega,fun q hq _=>by omega⟩⟩
 refine ⟨⟨b,rfl,b1,b2⟩,by simp,hv, ?_⟩
 exact (Fc hv.hasA (by simp)).2 fun i hi _=>by simp at hi
theorem Jab {α β:Type} {f g:α→List β}:∀ {L:List α},(∀ x∈L,f x=g x)→L.flatMap f=L.flatMap g
 | [],_=>rfl
 | x::L,h=>by rw [List.flatMap_cons,List.flatMap_cons,h x (by simp),Jab fun y hy=>h y (by simp [hy])]
theorem Jix {l:Jd} {b:Jb} (h:Dk l b=false):Qc l ⟨b.El,b.Out⟩=((Qc l ⟨b.El,b.Out⟩).1,true):=by
 unfold Dk at h
 simp only [Bool.or_eq_false_iff,Bool.not_eq_false'] at h
 rw [← h.2]
theorem Jfy {l:Jd} {e:Jg}:∀ (n:Nat) (a:Jg) (way:List Jb),(way=[]∧a=e∨Xo l e way∧∃ p,way.getLast? = some p∧Qc l ⟨p.El,p.Out⟩=(a,true))→Gg l n a way=Ca l e n a way
 | 0,_,_,_=>rfl
 | n+1,a,way,h=>by
  have hfit:∀ b∈Vc l a,Jih l e (way++[b])=(decide (way.length<12)&&Se l way a.El):=by
   intro b hb
   rw [Bool.eq_iff_iff,Ou,Bool.and_eq_true,decide_eq_true_iff,Jk0]
   rcases h with ⟨rfl,rfl⟩|⟨hf,p,hp,ha⟩
   ·exact ⟨fun _=>⟨by simp,fun i s hs=>by simp at hs⟩,fun _=>Juz hb⟩
   ·exact Jsv hf hp ha hb
  rw [Sq,Bt]
  cases hc:decide (way.length<12)&&Se l way a.El with
  | false =>
   rw [cond_false]
   refine (List.flatMap_eq_nil_iff.2 fun b hb=>?_).symm
   unfold Nc
   rw [hfit b hb,hc,cond_false]
  | true =>
   rw [cond_true]
   refine Jab fun b hb=>?_
   have hfb:=hfit b hb
   rw [hc] at hfb
   unfold Jnc Nc
   rw [hfb,cond_true]
   cases hz:Dk l b with
   | true=>rfl
   | false=>exact Jfy n _ _ (.inr ⟨Ou.1 hfb,b,by simp,Jix hz⟩)
end PM
/-
 PLAIN, ROUTES S: when two routes are the same (chapter 12).
-/
namespace PM
open Go Go.RowKit
theorem Jxa (x y:Jg):Ka x y=true↔x=y:=by cases x; cases y; simp [Ka]
theorem Jxq (x y:Je):Ua x y=true↔x=y:=by cases x; cases y; simp [Ua]
theorem Jxn (x y:Jb):Lj x y=true↔x=y:=by cases x; cases y; simp [Lj]
/-- All lists of a route are short. -/
structure Jsp (r:Jl):Prop where
 path:r.Path.length≤1048576
 pts:r.Points.length≤1048576
 secs:r.Sections.length≤1048576
 over:r.Over.length≤1048576
 ops:r.OverPoints.length≤1048576
 osecs:r.OverSections.length≤1048576
 flank:r.Flank.length≤1048576
 guards:r.Guards.length≤1048576
 gaps:r.Gaps.length≤1048576
theorem Jou {a b:List Jb} (h:a.length≤1048576):Is (Cr a b) fun r=>r=true↔a=b:=Jl2 Jxn h fun _=>rfl
theorem Jqq {a b:List Je} (h:a.length≤1048576):Is (Zp a b) fun r=>r=true↔a=b:=Jl2 Jxq h fun _=>rfl
theorem Jqh {a b:List Int} (h:a.length≤1048576):Is (Ei a b) fun r=>r=true↔a=b:=Jl2 (eqf:=fun x y=>decide (x=y)) (fun _ _=>Yd) h fun _=>rfl
theorem Jxh {a b:List Jg} (h:a.length≤1048576):Is (Ex a b) fun r=>r=true↔a=b:=Jl2 Jxa h fun _=>rfl
theorem Jtv {b:Bool} {y:Option Bool} {p q:Prop} (hb:b=true↔p) (hy:Is y fun c=>c=true↔q):Is (bif b then y else some false) fun c=>c=true↔p∧q :=
 Is.cond (fun h=>hy.mono fun _ hc=>hc.trans ⟨fun e=>⟨hb.1 h,e⟩,fun e=>e.2⟩) fun h=>Is.val ⟨fun e=>(by cases e),fun e=>by rw [hb.2 e.1] at h; cases h⟩
theorem orN {b:Bool} {y:Option Bool} {p q:Prop} (hb:b=true↔¬ p) (hy:Is y fun c=>c=true↔q):Is (bif b then some true else y.bind fun r=>some (!r)) fun c=>c=true↔¬ (p∧q) :=
 Is.cond (fun h=>Is.val ⟨fun _ e=>hb.1 h e.1,fun _=>rfl⟩) fun h=>hy.bind fun c hc=>Is.val (by
  have hp:p:=Classical.byContradiction fun n=>by rw [hb.2 n] at h; cases h
  cases c with
  | true=>exact ⟨fun e=>(by cases e),fun e=>absurd ⟨hp,hc.1 rfl⟩ e⟩
  | false=>exact ⟨fun _ e=>Bool.false_ne_true (hc.2 e.2),fun _=>rfl⟩)
theorem Jrw {a b:Jl} (h:Jsp a):Is (Ep a b) fun r=>r=true↔a=b:=by
 unfold Ep Uv Qo Uk
 simp only [Jlj]
 refine Is.cond (fun h0=>Is.val ⟨fun e=>(by cases e),fun e=>?_⟩) fun h0=>?_
 ·subst e; simp at h0
 simp only [Bool.or_eq_false_iff,Bool.not_eq_false',decide_eq_true_eq] at h0
 refine (Jou h.path).bind fun r1 h1=>?_
 refine (orN (p:=a.Path=b.Path) (b:=!r1) (by rw [← h1]; simp) (Jqq h.pts)).bind fun b2 h2=>?_
 refine (orN h2 (Jqh h.secs)).bind fun b4 h4=>?_
 refine Is.cond (fun hb=>Is.val ⟨fun e=>(by cases e),fun e=>absurd ⟨⟨by rw [e],by rw [e]⟩,by rw [e]⟩ (h4.1 hb)⟩) fun hb4=>?_
 have k4:(a.Path=b.Path∧a.Points=b.Points)∧a.Sections=b.Sections:=Classical.byContradiction fun n=>by rw [h4.2 n] at hb4; cases hb4
 refine (Jou h.over).bind fun r6 h6=>?_
 refine (Jtv h6 (Jqq h.ops)).bind fun b7 h7=>?_
 refine (Jtv h7 (Jqh h.osecs)).bind fun b9 h9=>?_
 refine (Jtv h9 (Jqq h.flank)).bind fun b11 h11=>?_
 refine (Jtv h11 (Jqh h.guards)).bind fun b13 h13=>?_
 refine (Jtv h13 (Jxh h.gaps)).mono fun b15 h15=>h15.trans ?_
 cases a; cases b
 simp only at h0 k4
 simp only [Jl.mk.injEq,h0,k4,true_and]
 constructor
 ·rintro ⟨⟨⟨⟨⟨k1,k2⟩,k3⟩,k5⟩,k6⟩,k7⟩; exact ⟨k1,k2,k3,k5,k6,k7⟩
 ·rintro ⟨k1,k2,k3,k5,k6,k7⟩; exact ⟨⟨⟨⟨⟨k1,k2⟩,k3⟩,k5⟩,k6⟩,k7⟩
theorem Ny : Qx=some true:=by kernel_rfl
end PM
/-
 PLAIN, ROUTES D: the program's search finds the paths of followN; its routes are the reference's.
-/
namespace PM
open Go Go.RowKit
theorem Ju5 {l:Jd} (ps:List (List Jb)) {way:List Jb} (h:way.length≤1000) (el:Int):Vl ⟨l,ps⟩ way el=some (Se l way el):=by
 have:Is (Vl ⟨l,ps⟩ way el) fun b=>b=true↔Jqw l way el:=by
  unfold Vl
  rw [Wb,Option.bind_some]
  refine Is.all (L:=way) (fun i x=>x.El≠el∧(0<i→zAt l way (i - 1)=Nj l el→zAt l way i=Nj l el)) () (by omega) (fun i x hx hi _=>?_) (by simp [Yz]) (fun hn=>Is.val (iff_of_true rfl fun i s hs=>hn i s hs))
  unfold Yz
  refine Is.inb hi (Is.at hx ?_)
  refine Is.cond (fun he=>Is.val (iff_of_false Bool.false_ne_true fun hp=>(hp i x hx).1 (of_decide_eq_true he))) fun he=>?_
  have he:=of_decide_eq_false he
  have hz:=Hl (l:=l) hx
  refine Is.bind (φ:=fun b=>b=true↔(0<i∧zAt l way (i - 1)=Nj l el)) ?_ fun b1 h1=>?_
  ·by_cases h0:0<i
   ·have hg:way[i - 1]? = some way[i - 1]:=List.getElem?_eq_getElem (by omega)
    rw [decide_eq_true (by omega),cond_true,Vy (by omega) (by omega),show (i:Int) - 1=((i - 1:Nat):Int) by omega]
    refine Is.at hg ?_
    rw [Wb,Option.bind_some,← Hl (l:=l) hg]
    exact Is.val (by rw [decide_eq_true_iff]; exact ⟨fun q=>⟨h0,q⟩,fun q=>q.2⟩)
   ·rw [decide_eq_false (by omega),cond_false]
    exact Is.val (iff_of_false Bool.false_ne_true fun q=>h0 q.1)
  refine Is.bind (φ:=fun b=>b=true↔((0<i∧zAt l way (i - 1)=Nj l el)∧zAt l way i≠Nj l el)) ?_ fun b2 h2=>?_
  ·refine Is.ite h1 (fun hp=>?_) fun hp=>Is.val (iff_of_false Bool.false_ne_true fun q=>hp q.1)
   rw [Wb,Option.bind_some,← hz]
   exact Is.val (by rw [Bool.not_eq_true',decide_eq_false_iff_not]; exact ⟨fun q=>⟨hp,q⟩,fun q=>q.2⟩)
  refine Is.ite h2 (fun hp=>Is.val (iff_of_false Bool.false_ne_true fun q=>hp.2 ((q i x hx).2 hp.1.1 hp.1.2))) fun hp=>Is.val ⟨rfl,he,fun h0 hq=>?_⟩
  exact Classical.byContradiction fun hne=>hp ⟨⟨h0,hq⟩,hne⟩
 obtain ⟨b,h1,h2⟩:=this
 rw [h1]
 congr 1
 rw [Bool.eq_iff_iff,h2,Jk0]
theorem Jkb {L:List Jb} (h:L.length≤1000):Qf L=some L:=by
 have:Is (Qf L) fun M=>M=L:=by
  unfold Qf
  exact (Is.app (by simp only [List.length_nil,Kn,Enc.b]; omega)).bind fun M hM=>Is.val (by rw [hM,List.nil_append])
 obtain ⟨M,h1,rfl⟩:=this
 exact h1
theorem Jqi {l:Jd} (hs:Sm l) {ps:List (List Jb)} (hp:ps.length≤1099511627776) {way:List Jb} {b:Jb} (hw:(way++[b]).length≤1000) :
  Ut ⟨l,ps⟩ (way++[b])=some (bif Dk l b then (⟨l,ps++[way++[b]]⟩,⟨-1,0⟩) else (⟨l,ps⟩,(Qc l ⟨b.El,b.Out⟩).1)):=by
 generalize hW:way++[b]=w at hw
 have h0:0<w.length:=by rw [← hW]; simp
 have hix:ixO w (w64 (((w.length:Nat):Int) - 1))=some b:=by
  obtain ⟨s,h1,h2⟩:=Jdt h0 hw
  rw [← hW,List.getLast?_append,List.getLast?_singleton,Option.some_or] at h1
  cases h1; exact h2
 have:Is (Ut ⟨l,ps⟩ w) fun r=>r=bif Dk l b then (⟨l,ps++[w]⟩,⟨-1,0⟩) else (⟨l,ps⟩,(Qc l ⟨b.El,b.Out⟩).1):=by
  unfold Ut Fa
  simp only [hix,Option.bind_some]
  rw [Eh hs.sg,Option.bind_some]
  have hN:(((w:List Jb).map cellsOf).length)=w.length:=by rw [List.length_map]
  have hend:Is ((Qf w).bind fun r11=>(Vv ps [r11]).bind fun x12=>some ((⟨l,x12⟩:Jz),(⟨-1,0⟩:Jg))) fun r=>r=(⟨l,ps++[w]⟩,⟨-1,0⟩):=by
   rw [Jkb hw,Option.bind_some]
   exact (Is.app (by simp only [List.length_cons,List.length_nil,Kn,Enc.b]; omega)).bind fun M hM=>Is.val (by rw [hM])
  refine Is.onInl (θ:=fun o=>(o=.inl ()∧Dk l b=true)∨(o=.inr (⟨l,ps⟩,(Qc l ⟨b.El,b.Out⟩).1)∧Dk l b=false)) ?_ (fun v hv=>?_) (fun r hr=>?_)
  ·refine Is.cond (fun hc=>?_) fun hc=>Is.val (.inl ⟨rfl, ?_⟩)
   ·have hc:=of_decide_eq_true hc
    have hw1:w64 (((((w:List Jb).map cellsOf).length:Nat):Int) - 1)=((w.length - 1:Nat):Int):=by rw [hN,Vy (by omega) (by omega)]; omega
    have hxi:Rl 0 (((w:List Jb).map cellsOf).length) (w64 (((((w:List Jb).map cellsOf).length:Nat):Int) - 1))=some (w.length - 1):=by rw [hw1,Ii 0 (by rw [hN]; omega),Nat.zero_add]
    have hld:Pw w (((w:List Jb).map cellsOf).length) (w.length - 1)=some b:=by
     rw [Jbd (by rw [List.length_map]),← List.getLast?_eq_getElem?,← hW,List.getLast?_append,List.getLast?_singleton,Option.some_or]
    rw [hxi,Option.bind_some,hld,Option.bind_some,Jea hs.jo,Option.bind_some]
    refine Is.cond (fun hj=>Is.val (.inr ⟨rfl, ?_⟩)) fun hj=>Is.val (.inl ⟨rfl, ?_⟩)
    ·unfold Dk; rw [hj,decide_eq_false (by omega)]; rfl
    ·unfold Dk; rw [hj]; simp
   ·unfold Dk; rw [decide_eq_true (by have:=of_decide_eq_false hc; omega)]; rfl
  ·rcases hv with ⟨hv,he⟩|⟨hv,_⟩
   ·rw [he,cond_true]; exact hend
   ·cases hv
  ·rcases hr with ⟨hr,_⟩|⟨hr,he⟩
   ·cases hr
   ·cases hr; rw [he,cond_false]
 obtain ⟨r,h1,rfl⟩:=this
 exact h1
theorem Jqk {l:Jd} (hO:OkL l) {e:Jg} (h:(Qc l e).2=true):0≤(Qc l e).1.El:=by
 have hx:∀ x:Jg,exS l x=true→0≤x.El:=fun x hx=>by
  have:=Jlw hx
  unfold Qr at this
  simp only [Bool.and_eq_true,decide_eq_true_eq] at this
  exact this.1
 unfold Qc at h ⊢
 split at h
 ·rename_i j hj
  have:=hO.joint j (List.mem_of_find?_eq_some hj)
  dsimp only
  cases Ka j.A e
  ·exact hx _ this.1
  ·exact hx _ this.2.1
 ·cases h
theorem Jfp (l:Jd):∀ (n:Nat) (a:Jg) (way:List Jb),(Gg l n a way).length≤2 ^ n
 | 0,_,_=>by simp [Gg]
 | n+1,a,way=>by
  have hp:1≤2 ^ n:=Nat.one_le_two_pow
  rw [Sq]
  cases decide (way.length<12)&&Se l way a.El with
  | false=>simp
  | true =>
   rw [cond_true]
   refine Nat.le_trans (Dj _ (2 ^ n) _ fun b _=>?_) (by rw [Nat.pow_succ,Nat.mul_comm]; exact Nat.mul_le_mul_left _ (Jbl l a))
   unfold Jnc
   cases Dk l b with
   | true=>simpa using hp
   | false=>exact Jfp l n _ _
theorem Jka {l:Jd} (hs:Sm l) (hO:OkL l):∀ (n:Nat) (ps:List (List Jb)) (a:Jg) (way:List Jb),way.length≤12→13≤n+way.length→ps.length+2 ^ (13 - way.length)≤1099511627776 →
  Is (Qu n ⟨l,ps⟩ way a) fun r=>r=⟨l,ps++Gg l (13 - way.length) a way⟩
 | 0,_,_,way,h1,h2,_=>by omega
 | n+1,ps,a,way,h1,h2,h3=>by
  show Is (Ud (Qu n) ⟨l,ps⟩ way a) _
  unfold Ud
  refine Is.onInl (θ:=fun o=>(∃ P,o=.inl (P,l.Name,l.Sections,l.Elements,l.Joints,l.Signals,l.Balises)∧P=ps++Gg l (13 - way.length) a way)∨o=.inr ⟨l,ps++Gg l (13 - way.length) a way⟩) ?_ (fun v hv=>?_) (fun r hr=>?_)
  ·generalize hE:Gg l (13 - way.length) a way=E
   refine Is.wf (I:=fun s=>∃ (a':Jg) (w:List Jb),s=(l.Name,l.Sections,l.Elements,l.Joints,l.Signals,l.Balises,a',w,ps)∧way.length≤w.length∧w.length≤12∧Gg l (13 - w.length) a' w=E) (μ:=fun s=>12 - s.2.2.2.2.2.2.2.1.length) ?_ 12 _ (Nat.sub_le _ _) ⟨a,way,rfl,Nat.le_refl _,h1,hE⟩
   rintro s ⟨a',w,rfl,w1,w2,w3⟩
   have hp:2 ^ (13 - w.length)=2 * 2 ^ (12 - w.length):=by
    rw [show 13 - w.length=(12 - w.length)+1 by omega,Nat.pow_succ]; omega
   have hpw:2 ^ (13 - w.length)≤2 ^ (13 - way.length):=Nat.pow_le_pow_right (by omega) (by omega)
   have hq:1≤2 ^ (12 - w.length):=Nat.one_le_two_pow
   rw [show 13 - w.length=(12 - w.length)+1 by omega,Sq] at w3
   simp only [Bm]
   have hN:(((w:List Jb).map cellsOf).length)=w.length:=by rw [List.length_map]
   have eL:Jd.mk l.Name l.Sections l.Elements l.Joints l.Signals l.Balises=l:=rfl
   rw [eL]
   refine Is.bind (φ:=fun b=>b=true↔¬ (w.length<12∧Se l w a'.El=true)) ?_ fun b1 hb1=>?_
   ·refine Is.cond (fun hc=>Is.val (iff_of_true rfl fun q=>?_)) fun hc=>?_
    ·have:=of_decide_eq_true hc; rw [hN] at this; omega
    ·have hc:=of_decide_eq_false hc
     rw [hN] at hc
     rw [Ju5 ps (by omega),Option.bind_some]
     refine Is.val ?_
     cases Se l w a'.El <;> simp; omega
   refine Is.ite hb1 (fun hc=>Is.val (.inr ?_)) fun hc=>?_
   ·have hf:(decide (w.length<12)&&Se l w a'.El)=false:=by
     rw [← Bool.not_eq_true,Bool.and_eq_true,decide_eq_true_eq]; exact hc
    rw [hf,cond_false] at w3
    rw [← w3,List.append_nil]
   have hc:w.length<12∧Se l w a'.El=true:=Classical.byContradiction hc
   have hf:(decide (w.length<12)&&Se l w a'.El)=true:=by rw [hc.2,decide_eq_true hc.1]; rfl
   rw [hf,cond_true] at w3
   rw [Jes,Option.bind_some]
   generalize hgo:Jnc l w (Gg l (12 - w.length))=g at w3
   have hlen:∀ b,(g b).length≤2 ^ (12 - w.length):=fun b=>by
    rw [← hgo]; unfold Jnc
    cases Dk l b with
    | true=>simpa using hq
    | false=>exact Jfp l _ _ _
   refine Is.cond (fun h1b=>?_) fun h1b=>?_
   ·have h1b:=of_decide_eq_true h1b
    obtain ⟨b,hb⟩:∃ b,Vc l a'=[b]:=List.length_eq_one_iff.1 (by omega)
    rw [hb,List.flatMap_cons,List.flatMap_nil,List.append_nil] at w3
    rw [hb]
    refine Is.at (i:=0) rfl ?_
    refine Is.bind (Is.app (by simp only [List.length_cons,List.length_nil,Kn,Enc.b]; omega)) fun M hM=>?_
    subst hM
    have hl2:(w++[b]).length=w.length+1:=by simp
    rw [Jqi hs (by omega) (by omega),Option.bind_some]
    rw [← hgo] at w3
    unfold Jnc at w3
    cases hz:Dk l b with
    | true =>
     rw [hz,cond_true] at w3
     simp only [cond_true]
     rw [decide_eq_false (by omega),cond_false]
     exact Is.val (.inr (by rw [w3]))
    | false =>
     rw [hz,cond_false] at w3
     simp only [cond_false]
     have hj:=Jix hz
     rw [decide_eq_true (Jqk hO (by rw [hj])),cond_true]
     refine Is.val ⟨⟨_,_,rfl,by omega,by omega, ?_⟩,by simp only [hl2]; omega⟩
     rw [hl2,show 13 - (w.length+1)=12 - w.length by omega]
     exact w3
   ·have hb2:=Jbl l a'
    refine Is.onInl (θ:=fun o=>o=.inl (ps++E,l.Name,l.Sections,l.Elements,l.Joints,l.Signals,l.Balises)) ?_ (fun v hv=>?_) (fun r hr=>by cases hr)
    ·refine Is.loop (mk:=fun i (s:List (List Jb))=>((i:Int),l.Name,l.Sections,l.Elements,l.Joints,l.Signals,l.Balises,s)) (Vc l a').length (fun i s=>s=ps++((Vc l a').take i).flatMap g) ps (by simp) (fun i s hi hI=>?_) (fun s hI=>?_)
     ·have hi3:(i+1) * 2 ^ (12 - w.length)=i * 2 ^ (12 - w.length)+2 ^ (12 - w.length):=Nat.succ_mul _ _
      have hi2:i * 2 ^ (12 - w.length)≤1 * 2 ^ (12 - w.length):=Nat.mul_le_mul_right _ (by omega)
      have hsl:s.length≤ps.length+i * 2 ^ (12 - w.length):=by
       have h4:=Dj g (2 ^ (12 - w.length)) ((Vc l a').take i) fun b _=>hlen b
       rw [List.length_take,Nat.min_eq_left (by omega)] at h4
       rw [hI,List.length_append]; omega
      have hx:=List.getElem?_eq_getElem hi
      have htk:((Vc l a').take (i+1)).flatMap g=((Vc l a').take i).flatMap g++g (Vc l a')[i]:=by
       rw [List.take_add_one,hx,Option.toList_some,List.flatMap_append]; simp
      generalize (Vc l a')[i]=b at hx htk
      simp only [Ws]
      rw [eL,decide_eq_true (by omega),cond_true]
      refine Is.onInl (θ:=fun o=>o=.inl (ps++((Vc l a').take (i+1)).flatMap g,l.Name,l.Sections,l.Elements,l.Joints,l.Signals,l.Balises)) ?_ (fun v hv=>?_) (fun r hr=>by cases hr)
      ·refine Is.at hx ?_
       rw [Jkb (by omega),Option.bind_some]
       refine Is.bind (Is.app (by simp only [List.length_cons,List.length_nil,Kn,Enc.b]; omega)) fun M hM=>?_
       subst hM
       have hl2:(w++[b]).length=w.length+1:=by simp
       rw [Jqi hs (by omega) (by omega),Option.bind_some,htk,← List.append_assoc,← hI,← hgo]
       unfold Jnc
       cases hz:Dk l b with
       | true =>
        simp only [cond_true]
        rw [decide_eq_false (by omega),cond_false]
        exact Is.val rfl
       | false =>
        simp only [cond_false]
        have hj:=Jix hz
        rw [decide_eq_true (Jqk hO (by rw [hj])),cond_true]
        refine (Jka hs hO n s _ _ (by omega) (by omega) (by rw [hl2,show 13 - (w.length+1)=12 - w.length by omega]; omega)).bind fun r hr=>?_
        rw [hl2,show 13 - (w.length+1)=12 - w.length by omega] at hr
        subst hr
        exact Is.val rfl
      ·cases hv
       exact Is.val ⟨_,by rw [Vy (by omega) (by omega)]; rfl,rfl⟩
     ·simp only [Ws]
      rw [decide_eq_false (by omega),cond_false]
      exact Is.val (by rw [hI,List.take_length,w3])
    ·cases hv
     exact Is.val (.inl ⟨_,rfl,rfl⟩)
  ·rcases hv with ⟨P,hv,hP⟩|hv
   ·cases hv
    exact Is.val (by rw [hP])
   ·cases hv
  ·rcases hr with ⟨P,hr,_⟩|hr
   ·cases hr
   ·cases hr; rfl
/-- The paths of the program from an end. -/
theorem Jk5 {l:Jd} (hs:Sm l) (hO:OkL l) (e:Jg):Za ⟨l,[]⟩ [] e=some ⟨l,Ca l e 13 e []⟩:=by
 have h:Is (Qu (Hw+1) ⟨l,[]⟩ [] e) _:=Jka hs hO (Hw+1) [] e [] (by simp) (by unfold Hw; simp) (by simp)
 have h:Is (Za ⟨l,[]⟩ [] e) _:=h
 obtain ⟨r,h1,h2⟩:=h
 rw [h1,h2,← Jfy (e:=e) 13 e [] (.inl ⟨rfl,rfl⟩)]
 rfl
end PM
/-
 PLAIN, ROUTES E: decimal numbers; the program's routes are the reference's; the laws RouteFrom and RouteAll.
-/
namespace PM
open Go Go.RowKit
/-! ### Numbers -/
def dg (u:Nat):ByteArray:=⟨(Lib.decDigits u).toArray⟩
theorem Jxe (a b:List UInt8):ByteArray.mk a.toArray++ByteArray.mk b.toArray=ByteArray.mk (a++b).toArray:=by apply ByteArray.ext; simp
theorem Js0 {u:Nat} (h:u<10):dg u=⟨#[UInt8.ofNat (48+u)]⟩:=by
 unfold dg; rw [Lib.decDigits,dif_pos h]
theorem Jwg {u:Nat} (h:¬ u<10):dg u=dg (u / 10)++⟨#[UInt8.ofNat (48+u % 10)]⟩:=by
 show ByteArray.mk (Lib.decDigits u).toArray=_
 rw [Lib.decDigits,dif_neg h]
 exact (Jxe _ _).symm
theorem Jpq {n:Nat} (h0:0<n) (h1:n<1000000):Ui (n:Int)=some (dg n):=by
 have:Is (Ui (n:Int)) fun M=>M=dg n:=by
  unfold Ui
  refine Is.onInl (θ:=fun o=>o=.inl (dg n)) ?_ (fun v hv=>by cases hv; exact Is.val rfl) (fun b hb=>by cases hb)
  refine Is.loop (mk:=fun _ (s:Int×ByteArray)=>s) 6 (fun i s=>(0≤s.1∧s.1<10 ^ (6 - i)∧s.2.size≤i)∧(s.1=0→s.2=dg n)∧(0<s.1→dg s.1.toNat++s.2=dg n)) ((n:Int),ByteArray.empty) ⟨⟨by simp,by simp; omega,Nat.le_refl _⟩,fun h=>by simp at h; omega,fun _=>by simp⟩ (fun i s hi hI=>?_) (fun s hI=>?_)
  ·obtain ⟨x,b⟩:=s
   obtain ⟨⟨g1,g2,g3⟩,g4,g5⟩:=hI
   simp only at g1 g2 g3 g4 g5
   simp only [Wv]
   refine Is.cond (fun hx=>?_) fun hx=>Is.val (by have:=of_decide_eq_false hx; rw [g4 (by omega)])
   have hx:=of_decide_eq_true hx
   have hle:(10:Int) ^ (6 - i)≤1000000:=by
    have:i=0∨i=1∨i=2∨i=3∨i=4∨i=5:=by omega
    rcases this with rfl|rfl|rfl|rfl|rfl|rfl <;> decide
   have hp:(10:Int) ^ (6 - i)=10 ^ (6 - (i+1)) * 10:=by rw [show 6 - i=(6 - (i+1))+1 by omega,Int.pow_succ]
   obtain ⟨X,rfl⟩:∃ X:Nat,x=(X:Int):=⟨x.toNat,by omega⟩
   have hm:((X:Int).tmod 10)=((X % 10:Nat):Int):=rfl
   have hd:((X:Int).tdiv 10)=((X / 10:Nat):Int):=rfl
   have hc:bytesOf [IntKind.u8.wrap (w64 (48+((X:Int).tmod 10)))]=⟨#[UInt8.ofNat (48+X % 10)]⟩:=by
    rw [hm,IntKind.wrap_u8,Vy (by omega) (by omega),show (48+((X % 10:Nat):Int)) % 256=((48+X % 10:Nat):Int) by omega]
    rfl
   rw [hc,hd,show w64 ((X / 10:Nat):Int)=((X / 10:Nat):Int) from Vy (by omega) (by omega)]
   have hs:∀ y:UInt8,(ByteArray.mk #[y]).size=1:=fun y=>rfl
   refine (Is.sadd (by rw [hs]; omega)).bind fun M hM=>Is.val ⟨(((X / 10:Nat):Int),M),rfl, ?_⟩
   refine ⟨⟨by simp only; omega,by simp only; omega,by simp only [hM,ByteArray.size_append,hs]; omega⟩,fun h=>?_,fun h=>?_⟩
   ·simp only at h ⊢
    have:=g5 hx
    rw [show (X:Int).toNat=X by omega,Js0 (show X<10 by omega)] at this
    rw [hM,← this,show X % 10=X by omega]
   ·simp only at h ⊢
    have:=g5 hx
    rw [show (X:Int).toNat=X by omega,Jwg (show ¬ X<10 by omega),ByteArray.append_assoc] at this
    rw [hM,← this]; rfl
  ·obtain ⟨x,b⟩:=s
   obtain ⟨⟨g1,g2,g3⟩,g4,g5⟩:=hI
   simp only at g1 g2 g3 g4 g5
   simp only [Wv]
   rw [decide_eq_false (by simp at g2; omega),cond_false]
   exact Is.val (by rw [g4 (by simp at g2; omega)])
 obtain ⟨M,h1,rfl⟩:=this
 exact h1
theorem Jp8 {n:Nat} (h0:0<n) (h1:n<1000000):Jrm n=dg n:=by
 unfold Jrm; rw [Jpq h0 h1]; rfl
theorem Jum {n:Nat} (h1:n<1000000):Ds (n:Int)=some (dg n):=by
 unfold Ds
 rw [if_pos ⟨by omega,by omega⟩,Lib.itoa_nonneg]
 rfl
/-! ### The program's routes -/
noncomputable def Jo1 (l:Jd) (i:Int) (p:List Jb):Jl :=
 Jl.mk (Yh l i (Qj l p)) i (Qj l p) p (Jjy l p) (Zo l p) (Nj l (atS l i).El) (w64 (Ov l p)) [] [] [] [] [] []
theorem Jti {l:Jd} (h:Sm l) {i:Int} (hi:0≤i∧i<(l.Signals.length:Nat)) {p:List Jb} (hp:0<p.length∧p.length≤1000):Co l i p=some (Jo1 l i p):=by
 have:Is (Co l i p) fun r=>r=Jo1 l i p:=by
  unfold Co Fa
  obtain ⟨y,hy1,hy2⟩:=Is.ix (L:=l.Signals) hi.1 hi.2
  have hat:atS l i=y.At:=by unfold atS; rw [hy2]; rfl
  have hnm:y.Name=sgN l i:=(Ni hy2).symm
  obtain ⟨s,hs1,hs2⟩:=Jdt hp.1 hp.2
  have hex:Te l.Signals ⟨s.El,s.Out⟩=Qj l p:=by unfold Qj Jfz; rw [hs1]
  rw [hy1,Option.bind_some,hs2,Option.bind_some,Option.bind_some,Eh h.sg,Option.bind_some,hex]
  have hr:Qj l p = -1∨(0≤Qj l p∧Qj l p<(l.Signals.length:Nat)):=Jc6 l.Signals (Jfz p)
  have z1:=Oz h i
  have z2:=Oz h (Qj l p)
  have h4:Pc.size=1:=rfl
  refine Is.onInl (θ:=fun o=>∃ t:ByteArray,o=.inl t∧t.size≤1048576∧(sgN l i++Pc)++t=Yh l i (Qj l p)) ?_ (fun v hv=>?_) (fun b hb=>by obtain ⟨_,hb,_⟩:=hb; cases hb)
  ·unfold Yh
   refine Is.cond (fun hc=>?_) fun hc=>Is.val ⟨_,rfl, ?_, ?_⟩
   ·have hc:=of_decide_eq_true hc
    refine (Is.ix hc (by omega)).bind fun z hz=>?_
    rw [← Ni hz,if_neg (by omega)]
    exact Is.val ⟨_,rfl,z2,rfl⟩
   ·show 3≤1048576; omega
   ·have hc:=of_decide_eq_false hc
    rw [if_pos (by omega),ByteArray.append_assoc]
    rfl
  ·obtain ⟨t,hv,ht,he⟩:=hv
   cases hv
   rw [hnm]
   refine (Is.sadd (b:=Pc) (by rw [h4]; omega)).bind fun M hM=>?_
   have hM1:M.size=(sgN l i).size+1:=by rw [hM,ByteArray.size_append,h4]
   refine (Is.sadd (by omega)).bind fun M' hM'=>?_
   rw [Rn l _ (by omega),Option.bind_some,Iy l _ (by omega),Option.bind_some,Wb,Option.bind_some,Jax l _ (by omega),Option.bind_some]
   refine Is.val ?_
   rw [hM',hM,he,← hat]
   rfl
 obtain ⟨r,h1,rfl⟩:=this
 exact h1
/-- How many of the first k paths have this name. -/
def cN (l:Jd) (i:Int) (P:List (List Jb)) (T:ByteArray):Nat→Nat
 | 0=>0
 | k+1=>if Yh l i (Qj l (Qh P k))=T then cN l i P T k+1 else cN l i P T k
theorem Jc7 (l:Jd) (i:Int) (P:List (List Jb)) (T:ByteArray) (k:Nat):cN l i P T (k+1)=if Yh l i (Qj l (Qh P k))=T then cN l i P T k+1 else cN l i P T k:=rfl
theorem Jvy (l:Jd) (i:Int) (P:List (List Jb)) (T:ByteArray):∀ k,cN l i P T k≤k
 | 0=>Nat.le_refl _
 | k+1=>by
  have:=Jvy l i P T k
  rw [Jc7]
  split <;> omega
theorem Jg8 (l:Jd) (i:Int) (P:List (List Jb)) (x:Int):∀ k,Xr l i P x k=cN l i P (Yh l i x) k+1
 | 0=>rfl
 | k+1=>by
  rw [Je2,Jc7,Jg8 l i P x k]
  split <;> rfl
theorem Jef {l:Jd} (h:Sm l) (hO:OkL l) (i:Int):Um l i=some (Wh l i):=by
 have:Is (Um l i) fun r=>r=Wh l i:=by
  unfold Um
  refine Is.bind (φ:=fun b=>b=true↔(i<0∨((l.Signals.length:Nat):Int)≤i)) (Is.or Yd fun _=>Is.val Yd) fun b hb=>?_
  refine Is.ite hb (fun hp=>Is.val ?_) fun hp=>?_
  ·unfold Wh; rw [if_neg (by omega)]
  have hi:0≤i∧i<(l.Signals.length:Nat):=by omega
  refine (Is.ix hi.1 hi.2).bind fun y hy=>?_
  have hat:atS l i=y.At:=by unfold atS; rw [hy]; rfl
  rw [Ix h.jo,Option.bind_some,← hat]
  unfold Wh
  rw [if_pos hi]
  cases hj:(Qc l (atS l i)).2 with
  | false=>exact Is.val (by rw [if_neg (by simp)])
  | true =>
   rw [if_pos rfl]
   simp only [Bool.not_true,cond_false]
   rw [Jk5 h hO,Option.bind_some]
   have hPl:=Gt l i
   have hP:∀ p∈Ub l i,0<p.length∧p.length≤12:=fun p hp=>by
    obtain ⟨⟨s,hs,_⟩,h2,_⟩:=Dl hp
    exact ⟨Qg hs,h2⟩
   show Is (onInl (Kl (Dz l i ⟨l,Ub l i⟩) _) _) _
   generalize Ub l i=P at hPl hP
   have hN:(((P:List (List Jb)).map cellsOf).length)=P.length:=List.length_map _
   refine Is.onInl (θ:=fun o=>o=.inl ((List.range P.length).map (Jfh l i P))) ?_ (fun v hv=>by cases hv; exact Is.val rfl) (fun b hb=>by cases hb)
   refine Is.loop (mk:=fun k (s:List (ByteArray×Int)×List Jl)=>((k:Int),s.1,s.2)) P.length (fun k s=>s.2=(List.range k).map (Jfh l i P)∧∀ T,(Vo s.1 T).getD 0=((cN l i P T k:Nat):Int)) ([],[]) ⟨rfl,fun T=>rfl⟩ (fun k s hk hI=>?_) (fun s hI=>?_)
   ·obtain ⟨m,L⟩:=s
    obtain ⟨g1,g2⟩:=hI
    simp only at g1 g2
    have hg:=Iz hk
    have hsl:L.length=k:=by rw [g1]; simp
    have hld:Pw P (((P:List (List Jb)).map cellsOf).length) k=some (Qh P k):=by rw [Jbd (by rw [List.length_map])]; exact hg
    have hxi:Rl 0 (((P:List (List Jb)).map cellsOf).length) (k:Int)=some k:=by rw [Ii 0 (by rw [hN]; exact hk),Nat.zero_add]
    have hp:=hP _ (List.mem_of_getElem? hg)
    have hts:=Jh2 h i (Qj l (Qh P k))
    have hcl:=Jvy l i P (Yh l i (Qj l (Qh P k))) k
    simp only [Dz]
    rw [decide_eq_true (by rw [hN]; omega),cond_true,hxi,Option.bind_some,hld,Option.bind_some,Jti h hi (by omega),Option.bind_some]
    simp only [Jo1]
    have hw:w64 ((Vo m (Yh l i (Qj l (Qh P k)))).getD 0+1)=((cN l i P (Yh l i (Qj l (Qh P k))) k+1:Nat):Int):=by rw [g2]; rw [Vy (by omega) (by omega)]; omega
    have hmm:Vo (My (Yh l i (Qj l (Qh P k))) (w64 ((Vo m (Yh l i (Qj l (Qh P k)))).getD 0+1)) m) (Yh l i (Qj l (Qh P k)))=some ((cN l i P (Yh l i (Qj l (Qh P k))) k+1:Nat):Int):=by rw [Jbe,if_pos rfl,hw]
    simp only [hmm,Option.getD_some]
    have hcK:Xr l i P (Qj l (Qh P k)) k=cN l i P (Yh l i (Qj l (Qh P k))) k+1:=Jg8 _ _ _ _ _
    refine Is.onInl (θ:=fun o=>o=.inl (Xx l i P k)) ?_ (fun v hv=>?_) (fun b hb=>by cases hb)
    ·unfold Xx
     rw [hcK]
     refine Is.cond (fun h1=>?_) fun h1=>?_
     ·have h1:=of_decide_eq_true h1
      rw [if_pos (by omega)]
      have h4:Jpd.size=1:=rfl
      have hd:=(Jil (n:=cN l i P (Yh l i (Qj l (Qh P k))) k+1) (by omega)).2
      rw [Jum (by omega),Option.bind_some]
      rw [Jp8 (by omega) (by omega)] at hd ⊢
      refine (Is.sadd (a:=Jpd) (by rw [h4]; omega)).bind fun M hM=>?_
      have hM1:M.size≤7:=by rw [hM,ByteArray.size_append,h4]; omega
      refine (Is.sadd (by omega)).bind fun M' hM'=>Is.val ?_
      rw [hM',hM,ByteArray.append_assoc]
     ·have h1:=of_decide_eq_false h1
      rw [if_neg (by omega)]
      exact Is.val rfl
    ·cases hv
     refine (Is.app (by simp only [List.length_cons,List.length_nil,Kn,Enc.b]; omega)).bind fun M hM=>?_
     refine Is.val ⟨(_,M),by rw [Ed (by omega)], ?_,fun T'=>?_⟩
     ·simp only
      rw [hM,g1,List.range_succ,List.map_append]
      rfl
     ·simp only
      rw [Jbe,Jc7,hw]
      by_cases e:(Yh l i (Qj l (Qh P k)))=T'
      ·rw [← e]
       rw [if_pos rfl,if_pos rfl]; rfl
      ·rw [if_neg (fun q=>e q.symm),if_neg e]
       exact g2 T'
   ·obtain ⟨m,L⟩:=s
    simp only [Dz]
    rw [decide_eq_false (by rw [hN]; omega),cond_false]
    exact Is.val (by rw [← hI.1])
 obtain ⟨r,h1,rfl⟩:=this
 exact h1
theorem Jp6 {l:Jd} (h:Sm l):Br l=some (if chk l=0 then (if 48<(Rf l).length then ([],2) else (Rf l,0)) else ([],chk l)):=by
 have:Is (Br l) fun r=>r=(if chk l=0 then (if 48<(Rf l).length then ([],2) else (Rf l,0)) else ([],chk l)):=by
  unfold Br
  rw [Jgo h,Option.bind_some]
  refine Is.ifn Yd (fun h0=>Is.val (by rw [if_neg h0])) fun h0=>?_
  rw [if_pos h0]
  have hO:=(Jos l).1 h0
  have hsg:=h.sg
  refine Is.onInl (θ:=fun o=>o=.inl (Rf l)) ?_ (fun v hv=>?_) (fun b hb=>by cases hb)
  ·refine Is.loop (mk:=fun k (s:List Jl)=>((k:Int),s)) l.Signals.length (fun k s=>s=(List.range k).flatMap fun i=>Wh l (i:Nat)) [] rfl (fun k s hk hI=>?_) (fun s hI=>?_)
   ·have hsl:=Dj (fun i:Nat=>Wh l (i:Int)) 8192 (List.range k) fun i _=>Le l _
    rw [← hI,List.length_range] at hsl
    have hf:=Le l (k:Int)
    simp only [Ln]
    rw [decide_eq_true (by omega),cond_true,Jef h hO,Option.bind_some]
    refine (Is.app (by simp only [Kn,Enc.b]; omega)).bind fun M hM=>?_
    refine Is.val ⟨_,by rw [Ed (by omega)], ?_⟩
    rw [hM,hI,List.range_succ,List.flatMap_append]; simp
   ·simp only [Ln]
    rw [decide_eq_false (by omega),cond_false]
    exact Is.val (by rw [hI]; rfl)
  ·cases hv
   refine Is.cond (fun h1=>Is.val ?_) fun h1=>Is.val ?_
   ·have h1:=of_decide_eq_true h1
    rw [if_pos (by omega)]
   ·have h1:=of_decide_eq_false h1
    rw [if_neg (by omega)]
 obtain ⟨r,h1,rfl⟩:=this
 exact h1
/-! ### The laws -/
theorem Nn {l:Jd} {i:Int} {r:Jl} (h:r∈Wh l i):(0≤i∧i<(l.Signals.length:Nat))∧(Qc l (atS l i)).2=true∧∃ k,k<(Ub l i).length∧r=Jfh l i (Ub l i) k:=by
 unfold Wh at h
 split at h
 ·rename_i h1
  split at h
  ·rename_i h2
   obtain ⟨k,hk,rfl⟩:=List.mem_map.1 h
   exact ⟨h1,h2,k,List.mem_range.1 hk,rfl⟩
  ·simp at h
 ·simp at h
theorem Jbc {l:Jd} {i:Int} {r:Jl} (h:r∈Wh l i):Jsp r:=by
 obtain ⟨_,_,k,hk,rfl⟩:=Nn h
 have hp:(Qh (Ub l i) k).length≤12:=(Dl (List.mem_of_getElem? (Iz hk))).2.1
 have h1:=Js9 l (Qh (Ub l i) k)
 have h2:=Jdl l (Qh (Ub l i) k)
 exact ⟨Nat.le_trans hp (by omega),Nat.le_trans h1 (by omega),Nat.le_trans h2 (by omega),Nat.zero_le _,Nat.zero_le _,Nat.zero_le _,Nat.zero_le _,Nat.zero_le _,Nat.zero_le _⟩
theorem Jtg {l:Jd} {r:Jl} (h:r∈Rf l):Jsp r:=by
 obtain ⟨i,_,h⟩:=List.mem_flatMap.1 h
 exact Jbc h
theorem Jc4 {L:List Jl} (h:∀ r∈L,Jsp r) (hl:L.length≤1048576):Wy L L=some true:=by
 have:Is (Wy L L) fun b=>b=true:=by
  unfold Wy
  rw [decide_eq_true rfl]
  simp only [Bool.not_true,cond_false]
  refine Is.all (L:=L) (fun _ _=>True) () (by omega) (fun i x hx hi _=>?_) (by simp [Cv]) (fun _=>Is.val rfl)
  unfold Cv
  refine Is.inb hi (Is.at hx (Is.at hx ?_))
  refine (Jrw (h x (List.mem_of_getElem? hx))).bind fun r hr=>?_
  rw [hr.2 rfl]
  exact Is.val ⟨rfl,trivial⟩
 obtain ⟨b,h1,rfl⟩:=this
 exact h1
theorem Lx {l:Jd} (h:Sm l):Is (Vj l) fun b=>b=true→OkL l:=by
 unfold Vj
 rw [Ns h,Option.bind_some]
 refine Is.bind (φ:=fun b=>b=false→OkL l) (Is.cond (fun _=>Is.val fun e=>by cases e) fun _=>Is.val fun e=>(Jos l).1 (by simpa using e)) fun b1 hb=>?_
 refine Is.cond (fun _=>Is.val fun e=>by cases e) fun hb1=>?_
 have hO:=hb hb1
 have hel:=h.el
 refine Is.onInl (θ:=fun o=>∃ v,o=.inl v) ?_ (fun v _=>Is.val fun _=>hO) (fun b hb=>by obtain ⟨_,hb⟩:=hb; cases hb)
 refine Is.loop (mk:=fun i (s:Int)=>(s,(i:Int))) l.Elements.length (fun _ _=>True) (0:Int) trivial (fun i s hi _=>?_) (fun s _=>?_)
 ·simp only [Eo]
  rw [decide_eq_true (by omega),cond_true]
  refine Is.onInl (θ:=fun o=>∃ v,o=.inl v) (Is.at (List.getElem?_eq_getElem hi) (Is.cond (fun _=>Is.val ⟨_,rfl⟩) fun _=>Is.val ⟨_,rfl⟩)) (fun v _=>Is.val ⟨v,by rw [Ed (by omega)],trivial⟩) (fun b hb=>by obtain ⟨_,hb⟩:=hb; cases hb)
 ·simp only [Eo]
  rw [decide_eq_false (by omega),cond_false]
  exact Is.val ⟨_,rfl⟩
theorem Jjr {l:Jd} (h:Sm l) (i:Int):Wl l i=some true:=by
 have:Is (Wl l i) fun b=>b=true:=by
  unfold Wl
  rw [Ny]
  refine (Lx h).bind fun b hb=>?_
  cases b with
  | false=>exact Is.val rfl
  | true =>
   have hO:=hb rfl
   simp only [Bool.not_true,cond_false]
   rw [Jef h hO,Jq3 h]
   simp only [Option.bind_some]
   rw [Jc4 (fun r hr=>Jbc hr) (Nat.le_trans (Le l i) (by omega))]
   exact Is.val rfl
 obtain ⟨b,h1,rfl⟩:=this
 exact h1
theorem Jri {l:Jd}:(∀ r∈(if chk l=0 then (if 48<(Rf l).length then (([]:List Jl),(2:Int)) else (Rf l,0)) else ([],chk l)).1,Jsp r)∧(if chk l=0 then (if 48<(Rf l).length then (([]:List Jl),(2:Int)) else (Rf l,0)) else ([],chk l)).1.length≤48:=by
 split
 ·split
  ·exact ⟨fun r hr=>by simp at hr,by simp⟩
  ·rename_i hc
   exact ⟨fun r hr=>Jtg hr,Nat.le_of_not_lt hc⟩
 ·exact ⟨fun r hr=>by simp at hr,by simp⟩
theorem Jlc {l:Jd} (h:Sm l):Yk l=some true:=by
 have:Is (Yk l) fun b=>b=true:=by
  unfold Yk
  rw [Ny,Ns h,Jp6 h,Jwe h]
  obtain ⟨f1,f2⟩:=Jri (l:=l)
  generalize (if chk l=0 then (if 48<(Rf l).length then (([]:List Jl),(2:Int)) else (Rf l,0)) else ([],chk l))=R at f1 f2
  refine Is.bind (φ:=fun _=>True) (Is.cond (fun _=>Is.val trivial) fun _=>Is.val trivial) fun b1 _=>?_
  refine Is.bind (φ:=fun _=>True) (Is.cond (fun _=>Is.val trivial) fun _=>(Lx h).bind fun b _=>Is.bind (φ:=fun _=>True) (Is.cond (fun _=>Is.val trivial) fun _=>Is.val trivial) fun _ _=>Is.val trivial) fun b2 _=>?_
  refine Is.cond (fun _=>Is.val rfl) fun _=>?_
  simp only [Option.bind_some]
  rw [Jc4 f1 (by omega),Option.bind_some]
  refine Is.bind (φ:=fun c=>c=true) (Is.cond (fun _=>Is.val rfl) fun hc=>by simp at hc) fun c hc=>?_
  subst hc
  exact Is.val rfl
 obtain ⟨b,h1,rfl⟩:=this
 exact h1
end PM
/-
 PLAIN, ROUTES F: the laws RouteFields and RouteWays.
-/
namespace PM
open Go Go.RowKit
theorem Jux {a b:List Int} (h:a.length≤1048576):Is (Uk a b) fun r=>r=true↔a=b:=by
 unfold Uk; rw [Jlj]; exact Jqh h
theorem Ju1 {a b:List Je} (h:a.length≤1048576):Is (Qo a b) fun r=>r=true↔a=b:=by
 unfold Qo; rw [Jlj]; exact Jqq h
theorem Jte {a b:List Jb} (h:a.length≤1048576):Is (Uv a b) fun r=>r=true↔a=b:=by
 unfold Uv; rw [Jlj]; exact Jou h
/-! ### The fields -/
theorem Joo {l:Jd} {way:List Jb} (h:Rc l way) {s:Jb} (hs:way[0]? = some s):(Zo l way)[0]? = some (Nj l s.El):=by
 have h0:=Qg hs
 suffices ∀ n,n+1≤way.length→(Zo l (way.take (n+1)))[0]? = some (Nj l s.El) by
  have:=this (way.length - 1) (by omega)
  rwa [show way.length - 1+1=way.length by omega,List.take_length] at this
 intro n
 induction n with
 | zero =>
  intro _
  rw [Hi h hs,Hl hs]
  simp [Zo,Tw]
 | succ n ih =>
  intro hn
  rw [Hi h (List.getElem?_eq_getElem (show n+1<way.length by omega))]
  have ih:=ih (by omega)
  split
  ·exact ih
  ·rw [List.getElem?_append_left (Qg ih)]; exact ih
theorem Jpt {l:Jd} {i:Int} {k:Nat} (hk:k<(Ub l i).length):Xo l (Qc l (atS l i)).1 (Qh (Ub l i) k):=Dl (List.mem_of_getElem? (Iz hk))
theorem Jgc {l:Jd} (h:Sm l) (i:Int):Vm l i=some true:=by
 have:Is (Vm l i) fun b=>b=true:=by
  unfold Vm
  rw [Ny]
  refine (Lx h).bind fun b hb=>?_
  cases b with
  | false=>exact Is.val rfl
  | true =>
   have hO:=hb rfl
   simp only [Bool.not_true,cond_false]
   rw [Jef h hO,Option.bind_some]
   have hfl:=Le l i
   refine Is.all (L:=Wh l i) (fun _ _=>True) () (by omega) (fun j x hx hj _=>?_) (by simp [Zd]) (fun _=>Is.val rfl)
   have hm:=List.mem_of_getElem? hx
   have hF:=Jbc hm
   obtain ⟨hi,hjn,k,hk,hxe⟩:=Nn hm
   have hfit:=Jpt hk
   obtain ⟨⟨s,s0,s1,s2⟩,f2,f3,f4⟩:=hfit
   have hsec:=Joo f3.hasA s0
   have hp:=hF.path
   have e1:x.Path=Qh (Ub l i) k:=by rw [hxe]; rfl
   have e2:x.Sections=Zo l x.Path:=by rw [hxe]; rfl
   have e3:x.Points=Jjy l x.Path:=by rw [hxe]; rfl
   have e4:x.Length=w64 (Ov l x.Path):=by rw [hxe]; rfl
   have e5:x.Approach=Nj l (atS l i).El:=by rw [hxe]; rfl
   have e6:x.Over=[]∧x.Flank=[]∧x.Guards=[]∧x.Gaps=[]:=by rw [hxe]; exact ⟨rfl,rfl,rfl,rfl⟩
   rw [← e1] at hsec f2
   have hp2:x.Path.length≤1000000:=by omega
   have hs0:=Qg hsec
   clear hxe
   unfold Zd
   refine Is.inb hj (Is.at hx ?_)
   refine Is.bind (φ:=fun b=>b=false) ?_ fun b1 h1=>?_
   ·rw [decide_eq_false (by omega),cond_false]
    exact Is.val (decide_eq_false (by omega))
   refine Is.bind (φ:=fun b=>b=false) ?_ fun b2 h2=>?_
   ·rw [h1,cond_false]
    exact Is.val (decide_eq_false (by rw [e2]; omega))
   rw [h2,cond_false,Iy l _ hp2,Option.bind_some]
   refine (Jux hF.secs).bind fun r39 h39=>?_
   have h39:r39=true:=h39.2 e2
   subst h39
   refine Is.bind (φ:=fun b=>b=false) ?_ fun b3 h3=>?_
   ·rw [Bool.not_true,cond_false,Rn l _ hp2,Option.bind_some]
    refine (Ju1 hF.pts).bind fun r42 h42=>?_
    rw [h42.2 e3]
    exact Is.val rfl
   refine Is.bind (φ:=fun b=>b=false) ?_ fun b4 h4=>?_
   ·rw [h3,cond_false,Jax l _ (by omega),Option.bind_some]
    exact Is.val (by rw [decide_eq_true e4]; rfl)
   rw [h4,cond_false]
   refine (Is.ix hi.1 hi.2).bind fun y hy=>?_
   have hat:atS l i=y.At:=by unfold atS; rw [hy]; rfl
   rw [Wb,Option.bind_some]
   refine Is.bind (φ:=fun b=>b=false) ?_ fun b5 h5=>?_
   ·rw [decide_eq_true (by rw [e5,hat]),Bool.not_true,cond_false]
    refine Is.at (i:=0) (by rw [e2]; exact hsec) (Is.val (decide_eq_false ?_))
    rw [e5,s1,hat]
    have hsf:=(hO.safe y (List.mem_of_getElem? hy)).2
    exact fun q=>hsf q.symm
   refine Is.bind (φ:=fun b=>b=false) ?_ fun b6 h6=>?_
   ·rw [h5,cond_false,e6.1,e6.2.1,e6.2.2.1,e6.2.2.2]
    exact Is.val rfl
   rw [h6,cond_false]
   exact Is.val ⟨rfl,trivial⟩
 obtain ⟨b,h1,rfl⟩:=this
 exact h1
/-! ### The ways -/
theorem Jb4 {l:Jd} (h:Sm l) (b:Jb):Ew l b=some (Te l.Signals ⟨b.El,b.Out⟩,Dk l b):=by
 unfold Ew
 rw [Eh h.sg,Option.bind_some,Jea h.jo,Option.bind_some]
 rfl
/-- A path ends at its last step, and there alone. -/
def Jde (l:Jd) (way:List Jb):Prop:=∀ i s,way[i]? = some s→(Dk l s=true↔i+1=way.length)
theorem Jrd {l:Jd} (h:Sm l) {way:List Jb} (h0:0<way.length) (h1:way.length≤1000) :
  Is (Kl (Dd l way) (1,0)) fun o=>(o=.inl ((Rm l way (way.length - 1):Nat):Int)∧Jde l way)∨(o=.inr (0,false)∧¬ Jde l way):=by
 refine Is.loop (mk:=fun i (s:Int)=>(s,(i:Int))) way.length (fun i s=>s=((Rm l way (i - 1):Nat):Int)∧∀ j s,j<i→way[j]? = some s→(Dk l s=true↔j+1=way.length)) (1:Int) ⟨rfl,fun j s hj=>by omega⟩ (fun i s hi hI=>?_) (fun s hI=>?_)
 ·obtain ⟨g1,g2⟩:=hI
  have hg:=List.getElem?_eq_getElem hi
  have hw:w64 (((way.length:Nat):Int) - 1)=((way.length - 1:Nat):Int):=by rw [Vy (by omega) (by omega)]; omega
  have hc:=Jl5 l way (i - 1)
  simp only [Dd]
  rw [decide_eq_true (by omega),cond_true,hw]
  have hd:decide ((i:Int)=((way.length - 1:Nat):Int))=decide (i+1=way.length):=by rw [decide_eq_decide]; omega
  rw [hd]
  refine Is.onInl (θ:=fun o=>(o=.inl ((Rm l way i:Nat):Int)∧(Dk l way[i]=true↔i+1=way.length))∨(o=.inr (.inr (.inr (0,false)))∧¬ (Dk l way[i]=true↔i+1=way.length))) ?_ (fun v hv=>?_) (fun b hb=>?_)
  ·refine Is.at hg ?_
   rw [Jb4 h,Option.bind_some]
   have hq:((Dk l way[i] == decide (i+1=way.length))=true)↔(Dk l way[i]=true↔i+1=way.length):=by
    rw [beq_iff_eq,Bool.eq_iff_iff,decide_eq_true_iff]
   refine Is.ifn hq (fun hn=>Is.val (.inr ⟨rfl,hn⟩)) fun hy=>?_
   refine Is.bind (φ:=fun b=>b=true↔(0<i∧zAt l way i≠zAt l way (i - 1))) ?_ fun b hb=>?_
   ·by_cases hi0:0<i
    ·have hgp:=List.getElem?_eq_getElem (show i - 1<way.length by omega)
     rw [decide_eq_true (by omega),cond_true]
     refine Is.at hg ?_
     rw [Wb,Option.bind_some,Vy (by omega) (by omega),show (i:Int) - 1=((i - 1:Nat):Int) by omega]
     refine Is.at hgp ?_
     rw [Wb,Option.bind_some,← Hl (l:=l) hg,← Hl (l:=l) hgp]
     refine Is.val ?_
     rw [Bool.not_eq_true',decide_eq_false_iff_not]
     exact ⟨fun q=>⟨hi0,q⟩,fun q=>q.2⟩
    ·rw [decide_eq_false (by omega),cond_false]
     exact Is.val (iff_of_false Bool.false_ne_true fun q=>hi0 q.1)
   refine Is.ite hb (fun hp=>Is.val (.inl ⟨?_,hy⟩)) fun hp=>Is.val (.inl ⟨?_,hy⟩)
   ·obtain ⟨n,rfl⟩:∃ n,i=n+1:=⟨i - 1,by omega⟩
    simp only [Nat.add_sub_cancel] at hp g1 hc
    rw [Iw,if_neg hp.2,g1,Ed (by omega)]
   ·by_cases hi0:0<i
    ·obtain ⟨n,rfl⟩:∃ n,i=n+1:=⟨i - 1,by omega⟩
     have:zAt l way (n+1)=zAt l way n:=Classical.byContradiction fun q=>hp ⟨hi0,q⟩
     simp only [Nat.add_sub_cancel] at g1
     rw [Iw,if_pos this,g1]
    ·have:i=0:=by omega
     subst this
     rw [g1]
  ·rcases hv with ⟨hv,hy⟩|⟨hv,_⟩
   ·cases hv
    refine Is.val ⟨((Rm l way i:Nat):Int),by rw [Ed (by omega)],by rw [Nat.add_sub_cancel],fun j s hj hs=>?_⟩
    by_cases e:j=i
    ·subst e; rw [hg] at hs; cases hs; exact hy
    ·exact g2 j s (by omega) hs
   ·cases hv
  ·rcases hb with ⟨hb,_⟩|⟨hb,hn⟩
   ·cases hb
   ·cases hb
    exact .inr ⟨rfl,fun q=>hn (q i _ hg)⟩
 ·simp only [Dd]
  rw [decide_eq_false (by omega),cond_false]
  exact Is.val (.inl ⟨by rw [hI.1],fun j s hs=>hI.2 j s (Qg hs) hs⟩)
theorem Jqj {l:Jd} (h:Sm l) (e:Jg) {way:List Jb} (hl:way.length≤1000) :
  Is (Ek l e way) fun r=>(r.2=true↔Xo l e way∧Jde l way)∧(r.2=true→r.1=Qj l way):=by
 unfold Ek
 refine Is.bind (Is.or Yd fun _=>Is.val Yd) fun b1 hb1=>?_
 refine Is.bind (Is.or (q:=¬ Zy l way) hb1 fun _=>(Jjn l way h.jo (by omega)).bind fun r hr=>Is.val (Tj hr)) fun b2 hb2=>?_
 refine Is.bind (φ:=fun b=>b=true↔((((way.length:Nat):Int)=0∨12<((way.length:Nat):Int))∨¬ Zy l way)∨∃ s,way[0]? = some s∧s.El≠e.El) (Is.ite hb2 (fun hp=>Is.val ⟨fun _=>.inl hp,fun _=>rfl⟩) fun hp=>?_) fun b4 hb4=>?_
 ·have h0:0<way.length:=Nat.pos_of_ne_zero fun q=>hp (.inl (.inl (by omega)))
  refine Is.at (i:=0) (List.getElem?_eq_getElem h0) (Is.val ?_)
  rw [Bool.not_eq_true',decide_eq_false_iff_not]
  constructor
  ·exact fun hn=>.inr ⟨_,List.getElem?_eq_getElem h0,hn⟩
  ·rintro (hn|⟨s,hs,hn⟩)
   ·exact absurd hn hp
   ·rw [List.getElem?_eq_getElem h0] at hs; cases hs; exact hn
 refine Is.bind (φ:=fun b=>b=true↔(((((way.length:Nat):Int)=0∨12<((way.length:Nat):Int))∨¬ Zy l way)∨∃ s,way[0]? = some s∧s.El≠e.El)∨∃ s,way[0]? = some s∧s.In≠e.Side) (Is.ite hb4 (fun hp=>Is.val ⟨fun _=>.inl hp,fun _=>rfl⟩) fun hp=>?_) fun b6 hb6=>?_
 ·have h0:0<way.length:=Nat.pos_of_ne_zero fun q=>hp (.inl (.inl (.inl (by omega))))
  refine Is.at (i:=0) (List.getElem?_eq_getElem h0) (Is.val ?_)
  rw [Bool.not_eq_true',decide_eq_false_iff_not]
  constructor
  ·exact fun hn=>.inr ⟨_,List.getElem?_eq_getElem h0,hn⟩
  ·rintro (hn|⟨s,hs,hn⟩)
   ·exact absurd hn hp
   ·rw [List.getElem?_eq_getElem h0] at hs; cases hs; exact hn
 refine Is.ite hb6 (fun hp=>Is.val ⟨iff_of_false Bool.false_ne_true ?_,fun q=>by cases q⟩) fun hp=>?_
 ·rintro ⟨⟨⟨s,hs,h1,h2⟩,h3,h4,h5⟩,_⟩
  have h0:=Qg hs
  rcases hp with (((hp|hp)|hp)|⟨t,ht,hp⟩)|⟨t,ht,hp⟩
  ·omega
  ·omega
  ·exact hp h4
  ·rw [hs] at ht; cases ht; exact hp h1
  ·rw [hs] at ht; cases ht; exact hp h2
 ·have h0:0<way.length:=Nat.pos_of_ne_zero fun q=>hp (.inl (.inl (.inl (.inl (by omega)))))
  have h12:way.length≤12:=Nat.le_of_not_lt fun q=>hp (.inl (.inl (.inl (.inr (by omega)))))
  have hg:=List.getElem?_eq_getElem h0
  have hv:Zy l way:=Classical.byContradiction fun q=>hp (.inl (.inl (.inr q)))
  have he1:(way[0]'h0).El=e.El:=Classical.byContradiction fun q=>hp (.inl (.inr ⟨_,hg,q⟩))
  have he2:(way[0]'h0).In=e.Side:=Classical.byContradiction fun q=>hp (.inr ⟨_,hg,q⟩)
  refine Is.onInl (Jrd h h0 hl) (fun v hv2=>?_) (fun b hb=>?_)
  ·rcases hv2 with ⟨hv2,ho⟩|⟨hv2,_⟩
   ·cases hv2
    obtain ⟨s,s1,s2⟩:=Jdt h0 hl
    rw [s2,Option.bind_some,Jb4 h,Option.bind_some,Iy l way (by omega),Option.bind_some]
    refine Is.val ⟨?_,fun _=>by unfold Qj Jfz; rw [s1]⟩
    rw [decide_eq_true_iff]
    constructor
    ·exact fun q=>⟨⟨⟨_,hg,he1,he2⟩,h12,hv,by omega⟩,ho⟩
    ·rintro ⟨⟨_,_,_,q⟩,_⟩
     omega
   ·cases hv2
  ·rcases hb with ⟨hb,_⟩|⟨hb,hn⟩
   ·cases hb
   ·cases hb
    exact ⟨iff_of_false Bool.false_ne_true fun q=>hn q.2,fun q=>by cases q⟩
theorem Jny (l:Jd) (a:Jg):(Vc l a).Pairwise (·≠·):=by
 unfold Vc
 cases Qr l a.El with
 | false=>exact .nil
 | true =>
  rw [cond_true]
  split
  ·refine List.Pairwise.map _ (R:=(·≠·)) (fun x y hxy q=>hxy (by injection q)) ?_
   unfold Pq
   repeat' split
   all_goals simp
  ·exact .nil
theorem Jow (k p q:Int) (h:(Ph k p q).2=true):q∈Pq k p:=by
 have ht:∀ x∈Kj,x.out_∈Pq x.kind_ x.in_:=by decide
 unfold Ph at h
 split at h
 ·rename_i x hx
  have hm:=ht x (List.mem_of_find?_eq_some hx)
  have hq:=List.find?_some hx
  simp only [Bool.and_eq_true,decide_eq_true_eq] at hq
  obtain ⟨⟨h1,h2⟩,h3⟩:=hq
  rw [h1,h2,h3] at hm
  exact hm
 ·cases h
theorem Jna {l:Jd} {s:Jb} (h:(Mv l s).2=true):s∈Vc l ⟨s.El,s.In⟩:=by
 unfold Mv at h
 unfold Vc
 cases hc:Qr l s.El with
 | false=>rw [hc] at h; cases h
 | true =>
  rw [hc,cond_true] at h
  rw [cond_true]
  split at h
  ·rename_i x hx
   have hx:l.Elements[(⟨s.El,s.In⟩:Jg).El.toNat]? = some x:=hx
   rw [hx]
   refine List.mem_map.2 ⟨s.Out, ?_,rfl⟩
   exact Jow _ _ _ h
  ·cases h
theorem Jip {l:Jd} {p:List Jb} {j i:Nat} (h:i<j):zAt l (p.take j) i=zAt l p i:=by
 unfold zAt; rw [List.getElem?_take,if_pos h]
theorem Js3 {l:Jd} {e:Jg} {p:List Jb} (h:Xo l e p) {j:Nat} (h0:0<j) (hj:j≤p.length):Xo l e (p.take j):=by
 obtain ⟨⟨s,s0,s1,s2⟩,f2,f3,f4⟩:=h
 have hl:(p.take j).length=j:=by rw [List.length_take]; omega
 have hv:Zy l (p.take j):=⟨by omega,by omega,fun i hi=>by
  rw [hl] at hi
  obtain ⟨t,g1,g2,g3,g4⟩:=f3.2.2 i (by omega)
  exact ⟨t,by rw [List.getElem?_take,if_pos hi]; exact g1,g2,fun k u hk hu=>g3 k u hk (by rw [List.getElem?_take,if_pos (by omega)] at hu; exact hu),fun q hq hu=>g4 q hq (by rw [List.getElem?_take,if_pos (by omega)] at hu; exact hu)⟩⟩
 refine ⟨⟨s,by rw [List.getElem?_take,if_pos h0]; exact s0,s1,s2⟩,by omega,hv, ?_⟩
 have ht:=(Fc f3.hasA (by omega)).1 f4
 refine (Fc hv.hasA (by omega)).2 fun i hi hne=>?_
 rw [hl] at hi
 rw [Jip hi,Jip (by omega)] at hne
 rw [Jip hi,List.take_take,Nat.min_eq_left (by omega)]
 exact ht i (by omega) hne
theorem Jry {l:Jd} {e:Jg} {p:List Jb} (hf:Xo l e p) (ho:Jde l p):p∈Ca l e 13 e []:=by
 have h12:=hf.2.1
 obtain ⟨s,s0,s1,s2⟩:=hf.1
 have hl0:=Qg s0
 suffices ∀ d k b,d+k+1=p.length→p[k]? = some b→p∈Ca l e (13 - k) ⟨b.El,b.In⟩ (p.take k) by
  have:=this (p.length - 1) 0 s (by omega) s0
  rw [s1,s2] at this
  exact this
 intro d
 induction d with
 | zero =>
  intro k b hk hb
  obtain ⟨t,g1,g2,g3,g4⟩:=hf.2.2.1.2.2 k (by omega)
  rw [hb] at g1; cases g1
  rw [show 13 - k=(12 - k)+1 by omega,Bt,List.mem_flatMap]
  refine ⟨b,Jna g2, ?_⟩
  unfold Nc
  have e1:p.take k++[b]=p:=by rw [← Vn hb,show k+1=p.length by omega,List.take_length]
  rw [e1,Ou.2 hf,cond_true,(ho k b hb).2 (by omega),cond_true]
  simp
 | succ d ih =>
  intro k b hk hb
  obtain ⟨t,g1,g2,g3,g4⟩:=hf.2.2.1.2.2 k (by omega)
  rw [hb] at g1; cases g1
  have hb2:=List.getElem?_eq_getElem (show k+1<p.length by omega)
  obtain ⟨t,q1,q2,q3,q4⟩:=hf.2.2.1.2.2 (k+1) (by omega)
  rw [hb2] at q1; cases q1
  have hj:=q4 b (by omega) hb
  have ih:=ih (k+1) _ (by omega) hb2
  rw [show 13 - k=(12 - k)+1 by omega,Bt,List.mem_flatMap]
  refine ⟨b,Jna g2, ?_⟩
  unfold Nc
  have hz:Dk l b=false:=by
   rw [← Bool.not_eq_true,ho k b hb]; omega
  rw [← Vn hb,Ou.2 (Js3 hf (by omega) (by omega)),cond_true,hz,cond_false,hj]
  rw [show 13 - (k+1)=12 - k by omega] at ih
  exact ih
theorem Su {l:Jd} {e:Jg}:∀ (n:Nat) (a:Jg) (way p:List Jb),p∈Ca l e n a way →
  way.length<p.length∧p.take way.length=way∧∀ i s,way.length≤i→p[i]? = some s→(Dk l s=true↔i+1=p.length)
 | 0,_,_,p,h=>by simp [Ca] at h
 | n+1,a,way,p,h=>by
  rw [Bt,List.mem_flatMap] at h
  obtain ⟨b,_,h⟩:=h
  unfold Nc at h
  cases hf:Jih l e (way++[b]) with
  | false=>rw [hf] at h; cases h
  | true =>
   rw [hf,cond_true] at h
   cases hz:Dk l b with
   | true =>
    rw [hz,cond_true,List.mem_singleton] at h
    subst h
    refine ⟨by simp,by simp,fun i s hi hs=>?_⟩
    have:=Qg hs
    rw [List.length_append,List.length_singleton] at this ⊢
    have hi:i=way.length:=by omega
    subst hi
    rw [List.getElem?_append_right (Nat.le_refl _)] at hs
    simp at hs
    subst hs
    exact iff_of_true hz rfl
   | false =>
    rw [hz,cond_false] at h
    obtain ⟨h1,h2,h3⟩:=Su n _ _ p h
    rw [List.length_append,List.length_singleton] at h1 h2 h3
    have hb:p[way.length]? = some b:=by
     have:(p.take (way.length+1))[way.length]? = some b:=by rw [h2]; simp
     rwa [List.getElem?_take,if_pos (by omega)] at this
    refine ⟨by omega, ?_,fun i s hi hs=>?_⟩
    ·have:=congrArg (List.take way.length) h2
     rw [List.take_take,Nat.min_eq_left (by omega)] at this
     rw [this]; simp
    ·by_cases hi2:i=way.length
     ·subst hi2
      rw [hb] at hs; cases hs
      rw [hz]
      exact iff_of_false Bool.false_ne_true (by omega)
     ·exact h3 i s (by omega) hs
theorem Jd8 {l:Jd} {e:Jg}:∀ (n:Nat) (a:Jg) (way:List Jb),(Ca l e n a way).Pairwise (·≠·)
 | 0,_,_=>.nil
 | n+1,a,way=>by
  have hat:∀ b p,p∈Nc l e way (Ca l e n) b→p[way.length]? = some b:=by
   intro b p h
   unfold Nc at h
   cases hf:Jih l e (way++[b]) with
   | false=>rw [hf] at h; cases h
   | true =>
    rw [hf,cond_true] at h
    cases hz:Dk l b with
    | true=>rw [hz,cond_true,List.mem_singleton] at h; subst h; simp
    | false =>
     rw [hz,cond_false] at h
     obtain ⟨h1,h2,_⟩:=Su n _ _ p h
     rw [List.length_append,List.length_singleton] at h1 h2
     have:(p.take (way.length+1))[way.length]? = some b:=by rw [h2]; simp
     rwa [List.getElem?_take,if_pos (by omega)] at this
  rw [Bt,List.pairwise_flatMap]
  refine ⟨fun b _=>?_,(Jny l a).imp fun {b c} hbc x hx y hy q=>?_⟩
  ·unfold Nc
   cases Jih l e (way++[b]) with
   | false=>exact .nil
   | true =>
    cases Dk l b with
    | true=>exact List.pairwise_singleton _ _
    | false=>exact Jd8 n _ _
  ·subst q
   have:=(hat b x hx).symm.trans (hat c x hy)
   exact hbc (Option.some.inj this)
open Classical in
theorem Jee {α:Type} {q:α→Bool} {a:α} (hq:∀ x,q x=true↔x=a):∀ {L:List α},L.Pairwise (·≠·)→L.countP q=if a∈L then 1 else 0
 | [],_=>by simp
 | x::L,h=>by
  rw [List.pairwise_cons] at h
  have ih:=Jee hq h.2
  rw [List.countP_cons,ih]
  by_cases e:x=a
  ·subst e
   have:x∉L:=fun m=>h.1 x m rfl
   rw [if_neg this,if_pos ((hq x).2 rfl),if_pos (by simp)]
  ·have hn:¬ q x=true:=fun m=>e ((hq x).1 m)
   rw [if_neg hn]
   have:a∈x::L↔a∈L:=by
    rw [List.mem_cons]
    exact ⟨fun m=>m.resolve_left fun r=>e r.symm,.inr⟩
   by_cases m:a∈L
   ·rw [if_pos m,if_pos (this.2 m)]
   ·rw [if_neg m,if_neg (fun r=>m (this.1 r))]
theorem Jpr {l:Jd} {i:Int} (hi:0≤i∧i<(l.Signals.length:Nat)) (hj:(Qc l (atS l i)).2=true):(Wh l i).map (·.Path)=Ub l i:=by
 unfold Wh
 rw [if_pos hi,if_pos hj,List.map_map]
 apply List.ext_getElem?
 intro k
 rw [List.getElem?_map]
 by_cases hk:k<(Ub l i).length
 ·rw [List.getElem?_range hk,Iz hk]; rfl
 ·rw [List.getElem?_eq_none (by rw [List.length_range]; omega),List.getElem?_eq_none (by omega)]; rfl
open Classical in
theorem Jjx {l:Jd} (h:Sm l) (i:Int) (way:List Jb):Wi l i way=some true:=by
 have:Is (Wi l i way) fun b=>b=true:=by
  unfold Wi
  rw [Ny]
  refine (Lx h).bind fun b hb=>?_
  refine Is.bind (φ:=fun c=>c=false→b=true∧0≤i∧i<(l.Signals.length:Nat)) ?_ fun b2 h2=>?_
  ·refine Is.cond (fun _=>Is.val fun q=>by cases q) fun hc=>Is.val fun q=>?_
   simp only [Bool.or_eq_false_iff,Bool.not_eq_false',decide_eq_false_iff_not] at hc q
   exact ⟨hc.1,by omega,by omega⟩
  refine Is.bind (φ:=fun c=>c=false→b2=false∧way.length≤100) ?_ fun b3 h3=>?_
  ·refine Is.cond (fun _=>Is.val fun q=>by cases q) fun hc=>Is.val fun q=>?_
   have q:=of_decide_eq_false q
   exact ⟨hc,by omega⟩
  refine Is.cond (fun _=>Is.val rfl) fun hc=>?_
  obtain ⟨q2,hw⟩:=h3 hc
  obtain ⟨q1,hi⟩:=h2 q2
  have hO:=hb q1
  refine (Is.ix hi.1 hi.2).bind fun y hy=>?_
  have hat:atS l i=y.At:=by unfold atS; rw [hy]; rfl
  rw [Ix h.jo,Option.bind_some,Jef h hO,Option.bind_some,← hat]
  have hfl:=Le l i
  let q:Jl→Bool:=fun r=>decide (r.Path=way)
  refine Is.onInl (θ:=fun o=>o=.inl (((Wh l i).countP q:Nat):Int)) ?_ (fun v hv=>?_) (fun b hb=>by cases hb)
  ·refine Is.loop (mk:=fun k (s:Int)=>(s,(k:Int))) (Wh l i).length (fun k s=>s=((((Wh l i).take k).countP q:Nat):Int)) (0:Int) rfl (fun k s hk hI=>?_) (fun s hI=>?_)
   ·have hx:=List.getElem?_eq_getElem hk
    have hm:=List.mem_of_getElem? hx
    have hcl:((Wh l i).take k).countP q≤8192:=Nat.le_trans List.countP_le_length (by rw [List.length_take]; omega)
    have htk:((Wh l i).take (k+1)).countP q=((Wh l i).take k).countP q+(if q (Wh l i)[k] then 1 else 0):=by
     rw [List.take_add_one,hx,Option.toList_some,List.countP_append,List.countP_singleton]
    generalize (Wh l i)[k]=x at hx hm htk
    have hF:=Jbc hm
    obtain ⟨_,hj,n,hn,hxe⟩:=Nn hm
    have hpth:x.Path=Qh (Ub l i) n:=by rw [hxe]; rfl
    have hpm:x.Path∈Ub l i:=by rw [hpth]; exact List.mem_of_getElem? (Iz hn)
    have hfit:Xo l (Qc l (atS l i)).1 x.Path:=Dl hpm
    have honce:Jde l x.Path:=fun j s hs=>(Su 13 _ [] x.Path hpm).2.2 j s (Nat.zero_le _) hs
    have hex:x.Exit=Qj l x.Path:=by rw [hxe]; rfl
    have hen:x.Entry=i:=by rw [hxe]; rfl
    simp only [Be]
    rw [decide_eq_true (by omega),cond_true]
    refine Is.onInl (θ:=fun o=>o=.inl ((((Wh l i).take (k+1)).countP q:Nat):Int)) ?_ (fun v hv=>?_) (fun b hb=>by cases hb)
    ·refine Is.at hx ?_
     refine (Jqj h _ (Nat.le_trans hfit.2.1 (by omega))).bind fun r30 hr=>?_
     have hr1:=hr.1.2 ⟨hfit,honce⟩
     have hr2:=hr.2 hr1
     have hcond:((((!(Qc l (atS l i)).2)||(!r30.2))||(!(decide (r30.1=x.Exit))))||(!(decide (x.Entry=i))))=false:=by
      rw [hj,hr1,decide_eq_true (by rw [hr2,hex]),decide_eq_true hen]; rfl
     rw [hcond,cond_false]
     refine (Jte hF.path).bind fun r31 h31=>?_
     refine Is.ite h31 (fun hp=>Is.val ?_) fun hp=>Is.val ?_
     ·have:q x=true:=decide_eq_true hp
      rw [htk,this,if_pos rfl,hI,Ed (by omega)]
     ·have:q x=false:=decide_eq_false hp
      rw [htk,this,if_neg Bool.false_ne_true,hI,Nat.add_zero]
    ·cases hv
     exact Is.val ⟨_,by rw [Ed (by omega)],rfl⟩
   ·simp only [Be]
    rw [decide_eq_false (by omega),cond_false]
    exact Is.val (by rw [hI,List.take_length])
  ·cases hv
   have hcnt:(Wh l i).countP q=if (Xo l (Qc l (atS l i)).1 way∧Jde l way)∧(Qc l (atS l i)).2=true then 1 else 0:=by
    cases hj:(Qc l (atS l i)).2 with
    | false =>
     rw [if_neg (by simp)]
     unfold Wh
     rw [if_pos hi,hj,if_neg (by simp)]
     rfl
    | true =>
     have e1:(Wh l i).countP q=(Ub l i).countP fun p=>decide (p=way):=by
      rw [← Jpr hi hj,List.countP_map]; rfl
     have hnd:(Ub l i).Pairwise (·≠·):=Jd8 13 _ []
     rw [e1,Jee (a:=way) (fun x=>decide_eq_true_iff) hnd]
     have:way∈Ub l i↔Xo l (Qc l (atS l i)).1 way∧Jde l way :=
      ⟨fun m=>⟨Dl m,fun j s hs=>(Su 13 _ [] way m).2.2 j s (Nat.zero_le _) hs⟩,fun m=>Jry m.1 m.2⟩
     by_cases m:way∈Ub l i
     ·rw [if_pos m,if_pos ⟨this.1 m,rfl⟩]
     ·rw [if_neg m,if_neg (fun r=>m (this.2 r.1))]
   rw [hcnt]
   refine Is.onInl (θ:=fun o=>o=.inl (((if (Xo l (Qc l (atS l i)).1 way∧Jde l way)∧(Qc l (atS l i)).2=true then 1 else 0:Nat):Nat):Int)) ?_ (fun v hv=>?_) (fun b hb=>by cases hb)
   ·refine (Jqj h _ (by omega)).bind fun r hr=>?_
    refine Is.ite (p:=(Xo l (Qc l (atS l i)).1 way∧Jde l way)∧(Qc l (atS l i)).2=true) (by rw [Bool.and_eq_true,hr.1]) (fun hp=>Is.val (by rw [if_pos hp]; rfl)) fun hp=>Is.val (by rw [if_neg hp]; rfl)
   ·cases hv
    refine Is.bind (φ:=fun c=>c=true) (Is.cond (fun _=>Is.val rfl) fun hc=>absurd rfl (of_decide_eq_false hc)) fun c hc=>?_
    subst hc
    exact Is.val rfl
 obtain ⟨b,h1,rfl⟩:=this
 exact h1
end PM
/-
 PLAIN, ROUTES G: the law RouteNames.
-/
namespace PM
open Go Go.RowKit
/-! ### Bytes -/
def bL (s:ByteArray):List UInt8:=s.data.toList
theorem Pu (a b:ByteArray):bL (a++b)=bL a++bL b:=by unfold bL; simp
theorem Jhs {a b:ByteArray} (h:bL a=bL b):a=b:=by
 apply ByteArray.ext
 unfold bL at h
 exact Array.toList_inj.1 h
theorem Jhw {c:UInt8}:∀ {a a' b b':List UInt8},c∉a→c∉a'→a++c::b=a'++c::b'→a=a'∧b=b'
 | [],[],b,b',_,_,h=>⟨rfl,by injection h⟩
 | [],x::a',b,b',_,h2,h=>by
  injection h with h3 h4
  exact absurd (by rw [← h3]; simp) h2
 | x::a,[],b,b',h1,_,h=>by
  injection h with h3 h4
  exact absurd (by rw [h3]; simp) h1
 | x::a,y::a',b,b',h1,h2,h=>by
  injection h with h3 h4
  obtain ⟨h5,h6⟩:=Jhw (fun m=>h1 (List.mem_cons_of_mem _ m)) (fun m=>h2 (List.mem_cons_of_mem _ m)) h4
  exact ⟨by rw [h3,h5],h6⟩
/-- No '-' and no '.'. -/
def Jco (s:ByteArray):Prop:=1≤s.size∧(45:UInt8)∉bL s∧(46:UInt8)∉bL s
theorem Fh.plain {s:ByteArray} (h:Fh s):Jco s:=by
 obtain ⟨h1,_,h3⟩:=h
 have key:∀ c∈bL s,c.toNat≠45∧c.toNat≠46:=by
  intro c hc
  obtain ⟨i,hi,he⟩:=List.getElem_of_mem hc
  have hs:i<s.size:=by unfold bL at hi; simpa using hi
  have:=h3 i hs
  have e:s[i]'hs=c:=by rw [← he]; rfl
  rw [e] at this
  unfold okB at this
  omega
 exact ⟨h1,fun m=>(key _ m).1 rfl,fun m=>(key _ m).2 rfl⟩
def Jst (L:List UInt8):Nat:=L.foldl (fun r c=>10 * r+(c.toNat - 48)) 0
theorem Jro (L:List UInt8) (c:UInt8):Jst (L++[c])=10 * Jst L+(c.toNat - 48):=by unfold Jst; rw [List.foldl_append]; rfl
theorem Jkr {d:Nat} (h:d<10):(UInt8.ofNat (48+d)).toNat - 48=d:=by
 rw [UInt8.toNat_ofNat']
 omega
theorem Ju0 (u:Nat):Jst (Lib.decDigits u)=u:=by
 induction u using Nat.strongRecOn with
 | ind u ih =>
  by_cases h:u<10
  ·rw [Lib.decDigits,dif_pos h]
   show 10 * 0+((UInt8.ofNat (48+u)).toNat - 48)=u
   rw [Jkr h]; omega
  ·rw [Lib.decDigits,dif_neg h,Jro,ih (u / 10) (by omega),Jkr (by omega)]
   omega
theorem Jwt {a b:Nat} (h:dg a=dg b):a=b:=by
 have:=congrArg (fun s=>Jst (bL s)) h
 have e:∀ u,bL (dg u)=Lib.decDigits u:=fun u=>by unfold bL dg; rfl
 simp only [e,Ju0] at this
 exact this
/-! ### The names -/
def endN : ByteArray:=ByteArray.mk #[101,110,100]
def exN (l:Jd) (x:Int):ByteArray:=if x<0 then endN else sgN l x
theorem Jdp (l:Jd) (i x:Int):Yh l i x=sgN l i++(Pc++exN l x):=by
 unfold Yh exN
 split
 ·rfl
 ·rw [ByteArray.append_assoc]
def sfx (c:Nat):ByteArray:=if 1<c then Jpd++dg c else ByteArray.empty
theorem Ja6 {l:Jd} {i:Int} {P:List (List Jb)} {k:Nat} (hk:k≤8192):Xx l i P k=sgN l i++(Pc++(exN l (Qj l (Qh P k))++sfx (Xr l i P (Qj l (Qh P k)) k))):=by
 have hc:=Jg6 l i P (Qj l (Qh P k)) k
 unfold Xx sfx
 split
 ·rw [Jp8 (by omega) (by omega),Jdp]
  simp only [ByteArray.append_assoc]
 ·rw [Jdp]; simp
theorem Rq {l:Jd} (hO:OkL l) {i:Int} (hi:0≤i∧i<(l.Signals.length:Nat)):Jco (sgN l i):=by
 obtain ⟨y,_,hy⟩:=Is.ix (L:=l.Signals) hi.1 hi.2
 rw [Ni hy]
 exact (hO.names.2.2.2 _ (List.mem_map.2 ⟨y,List.mem_of_getElem? hy,rfl⟩)).plain
theorem Jel {l:Jd} (hO:OkL l) {x:Int} (hx:x = -1∨(0≤x∧x<(l.Signals.length:Nat))):Jco (exN l x):=by
 unfold exN
 split
 ·exact ⟨by decide,by decide,by decide⟩
 ·exact Rq hO (by omega)
theorem Jvj {l:Jd} (hO:OkL l) {i j:Nat} (hi:i<l.Signals.length) (hj:j<l.Signals.length) (h:sgN l (i:Int)=sgN l (j:Int)):i=j:=by
 have hn:=hO.dist.2.2
 rw [Ni (y:=l.Signals[i]) (by simp [hi]),Ni (y:=l.Signals[j]) (by simp [hj])] at h
 exact (List.getElem_inj (xs:=l.Signals.map (·.Name)) (h₀:=by simpa using hi) (h₁:=by simpa using hj) hn).1 (by simpa using h)
theorem Jqm (l:Jd) (i:Int) (P:List (List Jb)) (T:ByteArray) (k:Nat):∀ m,cN l i P T k≤cN l i P T (k+m)
 | 0=>Nat.le_refl _
 | m+1=>by
  have:=Jqm l i P T k m
  rw [← Nat.add_assoc,Jc7]
  split <;> omega
theorem Jw7 : bL Pc=[45]:=rfl
theorem Jv8 : bL Jpd=[46]:=rfl
theorem Jj8 {a b s t:ByteArray} (ha:Jco a) (hb:Jco b) (h:a++(Pc++s)=b++(Pc++t)):a=b∧s=t:=by
 have:=congrArg bL h
 rw [Pu,Pu,Pu,Pu,Jw7] at this
 obtain ⟨h1,h2⟩:=Jhw ha.2.1 hb.2.1 this
 exact ⟨Jhs h1,Jhs h2⟩
theorem Jrk {a b:ByteArray} {c d:Nat} (ha:Jco a) (hb:Jco b) (hc:1≤c) (hd:1≤d) (h:a++sfx c=b++sfx d):a=b∧c=d:=by
 have h:=congrArg bL h
 rw [Pu,Pu] at h
 unfold sfx at h
 have e0:bL ByteArray.empty=[]:=rfl
 by_cases c1:1<c
 ·by_cases d1:1<d
  ·rw [if_pos c1,if_pos d1,Pu,Pu,Jv8] at h
   obtain ⟨h1,h2⟩:=Jhw ha.2.2 hb.2.2 h
   exact ⟨Jhs h1,Jwt (Jhs h2)⟩
  ·rw [if_pos c1,if_neg d1,Pu,Jv8,e0,List.append_nil] at h
   exact absurd (by rw [← h]; simp) hb.2.2
 ·by_cases d1:1<d
  ·rw [if_neg c1,if_pos d1,Pu,Jv8,e0,List.append_nil] at h
   exact absurd (by rw [h]; simp) ha.2.2
  ·rw [if_neg c1,if_neg d1,e0,List.append_nil,List.append_nil] at h
   exact ⟨Jhs h,by omega⟩
theorem Jif (l:Jd) (p:List Jb):Qj l p = -1∨(0≤Qj l p∧Qj l p<(l.Signals.length:Nat)):=Jc6 l.Signals (Jfz p)
theorem Ju6 {l:Jd} (hO:OkL l) {i:Int} (hi:0≤i∧i<(l.Signals.length:Nat)) {P:List (List Jb)} {k m:Nat} (hm:m≤8192) (hkm:k<m):Xx l i P k≠Xx l i P m:=by
 intro h
 rw [Ja6 (by omega),Ja6 hm] at h
 obtain ⟨_,h⟩:=Jj8 (Rq hO hi) (Rq hO hi) h
 have c1:=Jg8 l i P (Qj l (Qh P k)) k
 have c2:=Jg8 l i P (Qj l (Qh P m)) m
 obtain ⟨h1,h2⟩:=Jrk (Jel hO (Jif l _)) (Jel hO (Jif l _)) (by omega) (by omega) h
 have ht:Yh l i (Qj l (Qh P m))=Yh l i (Qj l (Qh P k)):=by rw [Jdp,Jdp,h1]
 have h3:=Jqm l i P (Yh l i (Qj l (Qh P k))) (k+1) (m - (k+1))
 rw [Jc7,if_pos rfl,show k+1+(m - (k+1))=m by omega] at h3
 rw [ht] at c2
 omega
theorem Jpf {l:Jd} (hO:OkL l):(Rf l).Pairwise fun r s=>r.Name≠s.Name:=by
 unfold Rf
 rw [List.pairwise_flatMap]
 constructor
 ·intro i hi
  have hi:=List.mem_range.1 hi
  have hi2:0≤(i:Int)∧(i:Int)<(l.Signals.length:Nat):=by omega
  unfold Wh
  rw [if_pos hi2]
  by_cases hj:(Qc l (atS l (i:Int))).2=true
  ·rw [if_pos hj,List.pairwise_map]
   have hl:=Gt l (i:Int)
   refine List.pairwise_lt_range.imp_of_mem fun {a b} ha hb hab=>?_
   have hb:=List.mem_range.1 hb
   exact Ju6 hO hi2 (by omega) hab
  ·rw [if_neg hj]; exact .nil
 ·refine List.pairwise_lt_range.imp_of_mem fun {a b} ha hb hab=>?_
  intro x hx y hy q
  have ha:=List.mem_range.1 ha
  have hb:=List.mem_range.1 hb
  obtain ⟨hi,_,k,hk,rfl⟩:=Nn hx
  obtain ⟨hj,_,m,hm,rfl⟩:=Nn hy
  have h1:=Gt l (a:Int)
  have h2:=Gt l (b:Int)
  have q:Xx l (a:Int) (Ub l a) k=Xx l (b:Int) (Ub l b) m:=q
  rw [Ja6 (by omega),Ja6 (by omega)] at q
  have:=Jvj hO ha hb (Jj8 (Rq hO hi) (Rq hO hj) q).1
  omega
theorem Is.sslO {b:ByteArray} {n:Nat} (h:n≤b.size):Is (sslO b none (some ((n:Nat):Int))) fun M=>M=b.extract 0 n:=by
 refine ⟨b.extract 0 n, ?_,rfl⟩
 unfold PM.sslO
 simp [Jbq,h]
theorem Jhv {l:Jd} (h:Sm l):Vw l=some true:=by
 have:Is (Vw l) fun b=>b=true:=by
  unfold Vw
  rw [Ny,Jp6 h]
  refine (Lx h).bind fun b hb=>?_
  cases b with
  | false=>exact Is.val rfl
  | true =>
   have hO:=hb rfl
   simp only [Bool.not_true,cond_false]
   rw [if_pos ((Jos l).2 hO),Option.bind_some]
   by_cases h48:48<(Rf l).length
   ·rw [if_pos h48]
    exact Is.val rfl
   ·rw [if_neg h48]
    have hpw:=Jpf hO
    generalize hL:Rf l=L at h48 hpw
    refine Is.cond (fun hc=>by simp at hc) fun _=>?_
    refine Is.onInl (θ:=fun o=>o=.inl ()) ?_ (fun v _=>Is.val rfl) (fun b hb=>by cases hb)
    refine Is.loop (mk:=fun k (s:List (ByteArray×Bool))=>((k:Int),s)) L.length (fun k s=>∀ T,(Vo s T).getD false=true↔∃ j x,j<k∧L[j]? = some x∧x.Name=T) [] (fun T=>iff_of_false (by simp [Jds]) fun ⟨j,_,hj,_⟩=>by omega) (fun k s hk hI=>?_) (fun s hI=>?_)
    ·have hx:=List.getElem?_eq_getElem hk
     have hm:=List.mem_of_getElem? hx
     have hnew:∀ j y,j<k→L[j]? = some y→y.Name≠(L[k]).Name:=fun j y hj hy=>by
      have:=List.pairwise_iff_getElem.1 hpw j k (by omega) hk hj
      rw [List.getElem?_eq_getElem (by omega)] at hy; cases hy
      exact this
     generalize L[k]=x at hx hm hnew
     rw [← hL] at hm
     obtain ⟨i,hi,hmi⟩:=List.mem_flatMap.1 hm
     obtain ⟨hir,_,m,hmm,hxe⟩:=Nn hmi
     have hpl:=Gt l (i:Int)
     have hnm:x.Name=(sgN l (i:Int)++Pc)++(exN l (Qj l (Qh (Ub l i) m))++sfx (Xr l i (Ub l i) (Qj l (Qh (Ub l i) m)) m)):=by
      rw [hxe,ByteArray.append_assoc]; exact Ja6 (by omega)
     have hen:x.Entry=(i:Int):=by rw [hxe]; rfl
     have hep:=(Jel hO (Jif l (Qh (Ub l i) m))).1
     have hR:1≤(exN l (Qj l (Qh (Ub l i) m))++sfx (Xr l i (Ub l i) (Qj l (Qh (Ub l i) m)) m)).size:=by rw [ByteArray.size_append]; omega
     generalize exN l (Qj l (Qh (Ub l i) m))++sfx (Xr l i (Ub l i) (Qj l (Qh (Ub l i) m)) m)=R at hnm hR
     simp only [Zs]
     rw [decide_eq_true (by omega),cond_true]
     refine Is.at hx ?_
     refine Is.bind (φ:=fun b=>b=false) ?_ fun b21 h21=>?_
     ·have h0:(Vo s x.Name).getD false=false:=by
       rw [← Bool.not_eq_true,hI]
       rintro ⟨j,y,hj,hy,e⟩
       exact hnew j y hj hy e
      rw [h0,decide_eq_false (by omega),Bool.or_false,cond_false]
      exact Is.val (decide_eq_false (by omega))
     rw [h21,cond_false]
     refine (Is.ix (by omega) (by omega)).bind fun y hy=>?_
     have hyn:y.Name=sgN l (i:Int):=by rw [← Ni hy,hen]
     have hz:=Oz h (i:Int)
     have h4:Pc.size=1:=rfl
     refine (Is.sadd (b:=Pc) (by rw [hyn,h4]; omega)).bind fun M hM=>?_
     rw [hyn] at hM
     rw [← hM] at hnm
     have hsz:x.Name.size=M.size+R.size:=by rw [hnm,ByteArray.size_append]
     refine Is.bind (φ:=fun b=>b=false) ?_ fun b24 h24=>?_
     ·rw [decide_eq_false (by omega),cond_false]
      refine (Is.sslO (by omega)).bind fun z hz2=>Is.val ?_
      have:z=M:=by rw [hz2,hnm,ByteArray.extract_append_eq_left rfl]
      rw [decide_eq_true this]; rfl
     rw [h24,cond_false]
     refine Is.val ⟨_,by rw [Ed (by omega)],fun T=>?_⟩
     rw [Jbe]
     by_cases e:T=x.Name
     ·rw [if_pos e]
      exact iff_of_true rfl ⟨k,x,by omega,hx,e.symm⟩
     ·rw [if_neg e,hI]
      constructor
      ·rintro ⟨j,y,hj,hy,q⟩
       exact ⟨j,y,by omega,hy,q⟩
      ·rintro ⟨j,y,hj,hy,q⟩
       by_cases hjk:j=k
       ·subst hjk
        rw [hx] at hy; cases hy
        exact absurd q.symm e
       ·exact ⟨j,y,by omega,hy,q⟩
    ·simp only [Zs]
     rw [decide_eq_false (by omega),cond_false]
     exact Is.val rfl
 obtain ⟨b,h1,rfl⟩:=this
 exact h1
end PM
