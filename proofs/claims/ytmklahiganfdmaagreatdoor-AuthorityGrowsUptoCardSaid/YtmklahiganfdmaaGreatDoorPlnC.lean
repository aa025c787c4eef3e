/-
 Plain laws, joined: OverA RutA RutB OverC FlankA FlankB CompI FlankC RefB FlankE AutG.
-/
import Derived.Test.YtmklahiganfdmaaGreatDoorPlnA
import Derived.Test.YtmklahiganfdmaaGreatDoorPlA
import Derived.Test.YtmklahiganfdmaaGreatDoorPlnB
/-
 PLAIN, OVERLAPS: the statements OverlapFinds, OverlapMeasures and OverlapKeeps.
-/
namespace PM
open Go Go.RowKit
theorem Xa {α:Type} {b:Bool} {x y:α}:(bif b then some x else some y)=some (bif b then x else y):=by cases b <;> rfl
def Jha (l:Je) (i:Int):Int:=bif Uv l i then ((l.Elements[i.toNat]?).map (·.Section)).getD (-1) else -1
theorem Jhp (l:Je) (i:Int):Ci l i=some (Jha l i):=by
 unfold Ci Jha
 simp only [Xa,Option.bind_some,Bool.cond_true_left]
 have e:(decide (i<0)||decide (((l.Elements.length:Nat):Int)≤i)) = !Uv l i:=by
  unfold Uv; rw [Bool.eq_iff_iff]; simp
 rw [e]
 cases h:Uv l i with
 | false=>rfl
 | true =>
  obtain ⟨x,h2,h3⟩:=Wf h
  simp [h2,h3]
theorem Dm (l:Je) (i:Int):Vx l i=some (Jha l i):=by
 unfold Vx Jha
 simp only [Xa,Option.bind_some,Bool.cond_true_left]
 have e:(decide (i<0)||decide (((l.Elements.length:Nat):Int)≤i)) = !Uv l i:=by
  unfold Uv; rw [Bool.eq_iff_iff]; simp
 rw [e]
 cases h:Uv l i with
 | false=>rfl
 | true =>
  obtain ⟨x,h2,h3⟩:=Wf h
  simp [h2,h3]
def Jyk (l:Je) (r:Jm):Ki×Bool :=
 bif decide (r.Exit<0)||decide (((l.Signals.length:Nat):Int)≤r.Exit) then (Ki.mk ByteArray.empty (Jj.mk 0 0) 0,false)
 else ((l.Signals[r.Exit.toNat]?).getD (Ki.mk ByteArray.empty (Jj.mk 0 0) 0),true)
theorem Jng (l:Je) (r:Jm):Gh l r=some (Jyk l r):=by
 unfold Gh Jyk
 simp only [Xa,Option.bind_some,Bool.cond_true_left]
 cases h:(decide (r.Exit<0)||decide (((l.Signals.length:Nat):Int)≤r.Exit)) with
 | true=>rfl
 | false =>
  simp only [Bool.or_eq_false_iff,decide_eq_false_iff_not] at h
  obtain ⟨x,h2,h3⟩:=Is.ix (L:=l.Signals) (i:=r.Exit) (by omega) (by omega)
  simp [h2,h3]
def Kaa (o:List Jd) (e:Int):Bool:=decide (∃ x∈o,x.El=e)
def inS (L:List Int) (e:Int):Bool:=decide (e∈L)
theorem Jsw (L:List Int) (e:Int) (h:L.length≤1048576):Vr L e=some (inS L e):=by
 have:Is (Vr L e) fun b=>b=inS L e:=by
  unfold Vr Cy
  refine Is.bind (φ:=fun i=>decide (0≤i)=inS L e) ?_ fun i hi=>Is.val hi
  refine Is.all (L:=L) (fun _ x=>¬ e=x) () (by omega) (fun i x hx hi hI=>?_) ?_ (fun hn=>Is.val ?_)
  ·unfold Bn
   refine Is.inb hi (Is.at hx ?_)
   refine Is.ite Vb (fun hc=>Is.val ?_) (fun hc=>Is.val ⟨rfl,hc⟩)
   show decide (0≤(i:Int))=inS L e
   rw [decide_eq_true (by omega:0≤(i:Int))]
   exact (decide_eq_true (hc▸List.mem_of_getElem? hx:e∈L)).symm
  ·simp [Bn]
  ·refine Eq.symm (decide_eq_false ?_)
   intro hx
   obtain ⟨i,hi⟩:=List.getElem?_of_mem hx
   exact hn i e hi rfl
 obtain ⟨b,h1,h2⟩:=this
 rw [h1,h2]
theorem Jtn (l:Je) (r:Jm) (o:List Jd) (e:Int) (h:o.length≤1048576) (hr:r.Sections.length≤1048576) :
  Bb l r o e=some (Kaa o e||inS r.Sections (Jha l e)):=by
 have:Is (Bb l r o e) fun b=>b=(Kaa o e||inS r.Sections (Jha l e)):=by
  unfold Bb
  refine Is.all (L:=o) (fun _ x=>¬ x.El=e) () (by omega) (fun i x hx hi hI=>?_) ?_ (fun hn=>?_)
  ·unfold En
   refine Is.inb hi (Is.at hx ?_)
   refine Is.ite Vb (fun hc=>Is.val ?_) (fun hc=>Is.val ⟨rfl,hc⟩)
   show true=_
   rw [show Kaa o e=true from decide_eq_true ⟨x,List.mem_of_getElem? hx,hc⟩,Bool.true_or]
  ·simp [En]
  have hc:Kaa o e=false:=decide_eq_false (by
   rintro ⟨x,hx,hc⟩
   obtain ⟨i,hi⟩:=List.getElem?_of_mem hx
   exact hn i x hi hc)
  rw [hc,Bool.false_or]
  refine Is.all (L:=r.Sections) (fun _ x=>¬ x=Jha l e) () (by omega) (fun i x hx hi hI=>?_) ?_ (fun hn=>Is.val ?_)
  ·unfold Eh
   refine Is.inb hi (Is.at hx ?_)
   rw [Dm,Option.bind_some]
   refine Is.ite Vb (fun hc=>Is.val ?_) (fun hc=>Is.val ⟨rfl,hc⟩)
   exact (decide_eq_true (hc▸List.mem_of_getElem? hx:Jha l e∈r.Sections)).symm
  ·simp [Eh]
  ·refine Eq.symm (decide_eq_false ?_)
   intro hx
   obtain ⟨i,hi⟩:=List.getElem?_of_mem hx
   exact hn i _ hi rfl
 obtain ⟨b,h1,h2⟩:=this
 rw [h1,h2]
/-- A route with another overlap. -/
def ovR (r:Jm) (o:List Jd) (p:List Jh) (s:List Int):Jm :=
 Jm.mk r.Name r.Entry r.Exit r.Path r.Points r.Sections r.Approach r.Length o p s r.Flank r.Guards r.Gaps
structure FewR (r:Jm):Prop where
 pa:r.Path.length≤60
 ov:r.Over.length≤60
 se:r.Sections.length≤60
 os:r.OverSections.length≤60
 po:r.Points.length≤60
 op:r.OverPoints.length≤60
 fl:r.Flank.length≤60
 gu:r.Guards.length≤60
 ga:r.Gaps.length≤60
theorem Jz5 (l:Je):Jjm l []=[]:=by
 have h:=Jlo l []
 exact List.eq_nil_of_length_eq_zero (by simpa using h)
theorem Jcr {α:Type} [Enc α] {L:List α} (h:L.length * Enc.b α≤Kn∧L.length≤Kn):Vg ([]:List α) L=some L:=by
 unfold Vg; rw [if_pos (by simpa using h)]; rfl
end PM
/-
 PLAIN, ROUTES A: what the reference's routes are (chapter 12), exactly.
-/
namespace PM
open Go Go.RowKit
/-! ### What fits -/
def zAt (l:Je) (way:List Jd) (i:Nat):Int:=Jha l (((way[i]?).map (·.El)).getD 0)
theorem Juz {l:Je} {way:List Jd} {i:Nat} {s:Jd} (h:way[i]?=some s):zAt l way i=Jha l s.El:=by
 unfold zAt; rw [h]; rfl
/-- Changes of the section along a way, one more than them. -/
def Jln (l:Je) (way:List Jd):Nat→Nat
 | 0=>1
 | n+1=>if zAt l way (n+1)=zAt l way n then Jln l way n else Jln l way n+1
theorem Jn9 (l:Je) (way:List Jd) (n:Nat):Jln l way (n+1)=if zAt l way (n+1)=zAt l way n then Jln l way n else Jln l way n+1:=rfl
theorem Jvt (l:Je) (way:List Jd):∀ n,Jln l way n≤n+1
 | 0=>Nat.le_refl _
 | n+1=>by
  have:=Jvt l way n
  unfold Jln
  split <;> omega
def Kay (l:Je) (e:Jj) (way:List Jd):Prop :=
 (∃ s,way[0]?=some s∧s.El=e.El∧s.In=e.Side)∧way.length≤12∧Wi l way∧Jln l way (way.length - 1)=(Xe l way).length
theorem Jt3 (l:Je) (way:List Jd) (h0:0<way.length) (h:way.length≤1000):Is (Km (Fl l way) (1,1)) fun o=>o=.inl ((Jln l way (way.length - 1):Nat):Int):=by
 refine Is.loop (mk:=fun i (s:Int)=>(s,((i+1:Nat):Int))) (way.length - 1) (fun i s=>s=((Jln l way i:Nat):Int)) (1:Int) rfl (fun i s hi hI=>?_) (fun s hI=>?_)
 ·have h1:i+1<way.length:=by omega
  have hc:=Jvt l way i
  simp only [Fl]
  rw [decide_eq_true (by omega),cond_true]
  refine Is.onInl (θ:=fun o=>o=.inl ((Jln l way (i+1):Nat):Int)) ?_ ?_ (fun b hb=>by cases hb)
  ·refine Is.at (List.getElem?_eq_getElem h1) ?_
   rw [Dm,Option.bind_some]
   have hw:w64 (((i+1:Nat):Int) - 1)=(i:Int):=by rw [Va (by omega) (by omega)]; omega
   rw [hw]
   refine Is.at (List.getElem?_eq_getElem (show i<way.length by omega)) ?_
   rw [Dm,Option.bind_some]
   have e1:=Juz (l:=l) (List.getElem?_eq_getElem h1)
   have e2:=Juz (l:=l) (List.getElem?_eq_getElem (show i<way.length by omega))
   rw [← e1,← e2]
   subst hI
   refine Is.ifn Vb (fun hn=>Is.val ?_) (fun hn=>Is.val ?_)
   ·rw [Jn9,if_neg hn,Gx (by omega)]
   ·rw [Jn9,if_pos hn]
  ·rintro v hv
   cases hv
   refine Is.val ⟨_, ?_,rfl⟩
   have hw:w64 (((i+1:Nat):Int)+1)=((i+1+1:Nat):Int):=by rw [Va (by omega) (by omega)]; omega
   rw [hw]
 ·simp only [Fl]
  rw [decide_eq_false (by omega),cond_false]
  exact Is.val (by rw [hI])
theorem Jxa (l:Je) (hj:l.Joints.length≤1048576) (e:Jj) (way:List Jd) (h:way.length≤1000):Is (Gj l e way) fun b=>b=true↔Kay l e way:=by
 unfold Gj
 refine Is.bind (Is.or Vb fun _=>Is.val Vb) fun b1 hb1=>?_
 refine Is.bind (φ:=fun b=>b=true↔(¬ (0<way.length∧way.length≤12))∨∃ s,way[0]?=some s∧s.El≠e.El) (Is.ite hb1 (fun hp=>Is.val ?_) fun hp=>?_) fun b2 hb2=>?_
 ·exact ⟨fun _=>.inl (by omega),fun _=>rfl⟩
 ·have h0:0<way.length:=by omega
  refine Is.at (i:=0) (List.getElem?_eq_getElem h0) (Is.val ?_)
  rw [Bool.not_eq_true',decide_eq_false_iff_not]
  constructor
  ·exact fun hn=>.inr ⟨_,List.getElem?_eq_getElem h0,hn⟩
  ·rintro (hn|⟨s,hs,hn⟩)
   ·omega
   ·rw [List.getElem?_eq_getElem h0] at hs; cases hs; exact hn
 refine Is.bind (φ:=fun b=>b=true↔((¬ (0<way.length∧way.length≤12))∨∃ s,way[0]?=some s∧s.El≠e.El)∨∃ s,way[0]?=some s∧s.In≠e.Side) (Is.ite hb2 (fun hp=>Is.val ?_) fun hp=>?_) fun b4 hb4=>?_
 ·exact ⟨fun _=>.inl hp,fun _=>rfl⟩
 ·have h0:0<way.length:=by
   by_cases hh:0<way.length
   ·exact hh
   ·exact absurd (.inl fun q=>hh q.1) hp
  refine Is.at (i:=0) (List.getElem?_eq_getElem h0) (Is.val ?_)
  rw [Bool.not_eq_true',decide_eq_false_iff_not]
  constructor
  ·exact fun hn=>.inr ⟨_,List.getElem?_eq_getElem h0,hn⟩
  ·rintro (hn|⟨s,hs,hn⟩)
   ·exact absurd hn hp
   ·rw [List.getElem?_eq_getElem h0] at hs; cases hs; exact hn
 refine Is.bind (Is.or (q:=¬ Wi l way) hb4 fun _=>?_) fun b6 hb6=>?_
 ·exact (Jms l way hj (by omega)).bind fun r hr=>Is.val (Jmc hr)
 refine Is.ite hb6 (fun hp=>Is.val ?_) fun hp=>?_
 ·simp only [Bool.false_eq_true,false_iff]
  rintro ⟨⟨s,hs,h1,h2⟩,h3,h4,h5⟩
  have h0:=Uc hs
  rcases hp with ((hp|⟨t,ht,hp⟩)|⟨t,ht,hp⟩)|hp
  ·omega
  ·rw [hs] at ht; cases ht; exact hp h1
  ·rw [hs] at ht; cases ht; exact hp h2
  ·exact hp h4
 ·have h0:0<way.length∧way.length≤12:=by
   by_cases hh:0<way.length∧way.length≤12
   ·exact hh
   ·exact absurd (.inl (.inl (.inl hh))) hp
  refine Is.onInl (Jt3 l way h0.1 h) (fun v hv=>?_) (fun b hb=>by cases hb)
  cases hv
  rw [Mx l way (by omega),Option.bind_some]
  refine Is.val ?_
  rw [decide_eq_true_iff]
  have hg:=List.getElem?_eq_getElem h0.1
  constructor
  ·intro hc
   refine ⟨⟨_,hg, ?_, ?_⟩,h0.2, ?_,by omega⟩
   ·by_cases hh:(way[0]'h0.1).El=e.El
    ·exact hh
    ·exact absurd (.inl (.inl (.inr ⟨_,hg,hh⟩))) hp
   ·by_cases hh:(way[0]'h0.1).In=e.Side
    ·exact hh
    ·exact absurd (.inl (.inr ⟨_,hg,hh⟩)) hp
   ·by_cases hh:Wi l way
    ·exact hh
    ·exact absurd (.inr hh) hp
  ·rintro ⟨_,_,_,hc⟩
   omega
/-! ### The ends of steps -/
theorem Jmx {l:Je} (h:l.Signals.length≤1048576) (e:Jj):Vu l e=some (Sh l.Signals e):=by
 have:Is (Vu l e) fun r=>r=Sh l.Signals e:=by
  unfold Vu
  refine Is.all (L:=l.Signals) (fun _ x=>x.At≠e) () (by omega) (fun i x hx hi hI=>?_) ?_ (fun hn=>?_)
  ·unfold Zf
   refine Is.inb hi (Is.at hx (Is.ite (Li _ _) (fun hc=>Is.val ?_) fun hc=>Is.val ⟨rfl,hc⟩))
   exact (Jnp hx hc hI).symm
  ·simp [Zf]
  ·refine Is.val (Jn3 fun s hs=>?_).symm
   obtain ⟨i,hi⟩:=List.getElem?_of_mem hs
   exact hn i s hi
 obtain ⟨r,h1,rfl⟩:=this
 exact h1
def Jrc (l:Je) (b:Jd):Bool:=decide (0≤Sh l.Signals ⟨b.El,b.Out⟩) || !(Qm l ⟨b.El,b.Out⟩).2
theorem Jvp {l:Je} (h:Sm l) (b:Jd):Bm l b=some (Sh l.Signals ⟨b.El,b.Out⟩,Jrc l b):=by
 unfold Bm Jrc
 rw [Jmx h.sg,Option.bind_some,Nq h.jo,Option.bind_some]
theorem Jlj (L:List Ki) (e:Jj):Sh L e = -1∨(0≤Sh L e∧Sh L e<(L.length:Nat)):=by
 unfold Sh
 cases h:L.findIdx? (fun s=>Ku s.At e) with
 | none=>exact .inl rfl
 | some i =>
  have:=(List.findIdx?_eq_some_iff_findIdx_eq.1 h).1
  exact .inr ⟨by simp,by simp; omega⟩
/-! ### The paths from an end -/
open Classical in
noncomputable def Jt4 (l:Je) (e:Jj) (way:List Jd):Bool:=decide (Kay l e way)
theorem Jla {l:Je} {e:Jj} {way:List Jd}:Jt4 l e way=true↔Kay l e way:=by simp [Jt4]
theorem Kbg {l:Je} (hj:l.Joints.length≤1048576) (e:Jj) {way:List Jd} (h:way.length≤1000):Gj l e way=some (Jt4 l e way):=by
 obtain ⟨b,h1,h2⟩:=Jxa l hj e way h
 rw [h1]
 congr 1
 rw [Bool.eq_iff_iff,h2,Jla]
/-- What a way becomes by one more step. -/
noncomputable def Jif (l:Je) (e:Jj) (way:List Jd) (rest:Jj→List Jd→List (List Jd)) (b:Jd):List (List Jd) :=
 bif Jt4 l e (way++[b]) then (bif Jrc l b then [way++[b]] else rest (Qm l ⟨b.El,b.Out⟩).1 (way++[b])) else []
noncomputable def Rw (l:Je) (e:Jj):Nat→Jj→List Jd→List (List Jd)
 | 0,_,_=>[]
 | n+1,a,way=>(Ej l a).flatMap (Jif l e way (Rw l e n))
theorem Jbs (l:Je) (e:Jj) (n:Nat) (a:Jj) (way:List Jd):Rw l e (n+1) a way=(Ej l a).flatMap (Jif l e way (Rw l e n)):=rfl
theorem Ta {l:Je} {e:Jj}:∀ {n:Nat} {a:Jj} {way p:List Jd},p∈Rw l e n a way→Kay l e p
 | 0,_,_,p,h=>by simp [Rw] at h
 | n+1,a,way,p,h=>by
  rw [Jbs,List.mem_flatMap] at h
  obtain ⟨b,_,h⟩:=h
  unfold Jif at h
  cases hf:Jt4 l e (way++[b]) with
  | false=>rw [hf] at h; cases h
  | true =>
   rw [hf,cond_true] at h
   cases hz:Jrc l b with
   | true=>rw [hz,cond_true,List.mem_singleton] at h; subst h; exact Jla.1 hf
   | false=>rw [hz,cond_false] at h; exact Ta h
theorem Sq {α β:Type} (f:α→List β) (k:Nat):∀ (L:List α),(∀ x∈L,(f x).length≤k)→(L.flatMap f).length≤L.length * k
 | [],_=>by simp
 | x::L,h=>by
  have h1:=h x (by simp)
  have h2:=Sq f k L fun y hy=>h y (by simp [hy])
  rw [List.flatMap_cons,List.length_append,List.length_cons,Nat.succ_mul]; omega
theorem Joa (l:Je) (e:Jj) (way:List Jd) (n:Nat) (rest:Jj→List Jd→List (List Jd)) (h:∀ a w,(rest a w).length≤2 ^ n) (b:Jd):(Jif l e way rest b).length≤2 ^ n:=by
 have hp:1≤2 ^ n:=Nat.one_le_two_pow
 unfold Jif
 cases Jt4 l e (way++[b]) with
 | false=>simp
 | true =>
  cases Jrc l b with
  | true=>simpa using hp
  | false=>exact h _ _
theorem Jeu (l:Je) (e:Jj):∀ (n:Nat) (a:Jj) (way:List Jd),(Rw l e n a way).length≤2 ^ n
 | 0,_,_=>by simp [Rw]
 | n+1,a,way=>by
  have h1:=Sq (Jif l e way (Rw l e n)) (2 ^ n) (Ej l a) fun b _=>Joa l e way n _ (Jeu l e n) b
  rw [Jbs]
  refine Nat.le_trans h1 ?_
  rw [Nat.pow_succ,Nat.mul_comm]
  exact Nat.mul_le_mul_left _ (Jnw l a)
theorem Jok {l:Je} (hs:Sm l) (e:Jj):∀ (n:Nat) (a0:Jz) (a:Jj) (way:List Jd),way.length≤12→13≤n+way.length→a0.L.length+2 ^ (13 - way.length)≤1099511627776 →
  Is (Vm n a0 l e a way) fun r=>r.L=a0.L++Rw l e (13 - way.length) a way
 | 0,_,_,way,h1,h2,_=>by omega
 | n+1,a0,a,way,h1,h2,h3=>by
  show Is (Vj (Vm n) a0 l e a way) _
  unfold Vj
  rw [Tj,Option.bind_some]
  have hb:=Jnw l a
  have hp:2 ^ (13 - way.length)=2 * 2 ^ (12 - way.length):=by
   rw [show 13 - way.length=(12 - way.length)+1 by omega,Nat.pow_succ]; omega
  have hq:1≤2 ^ (12 - way.length):=Nat.one_le_two_pow
  rw [show 13 - way.length=(12 - way.length)+1 by omega,Jbs]
  generalize hg:Jif l e way (Rw l e (12 - way.length))=g
  have hlen:∀ b,(g b).length≤2 ^ (12 - way.length):=fun b=>by rw [← hg]; exact Joa l e way _ _ (Jeu l e _) b
  refine Is.onInl (θ:=fun o=>o=.inl (a0.L++(Ej l a).flatMap g)) ?_ (fun v hv=>?_) (fun b hb=>by cases hb)
  ·refine Is.loop (mk:=fun i (s:List (List Jd))=>((i:Int),s)) (Ej l a).length (fun i s=>s=a0.L++((Ej l a).take i).flatMap g) a0.L (by simp) (fun i s hi hI=>?_) (fun s hI=>?_)
   ·have hi3:(i+1) * 2 ^ (12 - way.length)=i * 2 ^ (12 - way.length)+2 ^ (12 - way.length):=Nat.succ_mul _ _
    have hi2:i * 2 ^ (12 - way.length)≤1 * 2 ^ (12 - way.length):=Nat.mul_le_mul_right _ (by omega)
    have hsl:s.length≤a0.L.length+i * 2 ^ (12 - way.length):=by
     have h4:=Sq g (2 ^ (12 - way.length)) ((Ej l a).take i) fun b _=>hlen b
     rw [List.length_take,Nat.min_eq_left (by omega)] at h4
     rw [hI,List.length_append]; omega
    have hx:=List.getElem?_eq_getElem hi
    have htk:((Ej l a).take (i+1)).flatMap g=((Ej l a).take i).flatMap g++g (Ej l a)[i]:=by
     rw [List.take_add_one,hx,Option.toList_some,List.flatMap_append]; simp
    simp only [Ys]
    rw [decide_eq_true (by omega),cond_true]
    refine Is.onInl (θ:=fun o=>o=.inl (a0.L++((Ej l a).take (i+1)).flatMap g)) ?_ (fun v hv=>?_) (fun b hb=>by cases hb)
    ·refine Is.bind (Is.app (by simp only [List.length_nil,Kn,Enc.b]; omega)) fun M hM=>?_
     rw [hM,List.nil_append]
     refine Is.at hx ?_
     refine Is.bind (Is.app (by simp only [List.length_cons,List.length_nil,Kn,Enc.b]; omega)) fun M hM=>?_
     subst hM
     have hlen2:(way++[(Ej l a)[i]]).length=way.length+1:=by simp
     rw [htk,← List.append_assoc,← hI,← hg]
     unfold Jif
     rw [Kbg hs.jo e (by omega),Option.bind_some]
     cases hft:Jt4 l e (way++[(Ej l a)[i]]) with
     | false=>exact Is.val (by rw [cond_false,List.append_nil])
     | true =>
      simp only [Bool.not_true,cond_false,cond_true]
      refine Is.at hx ?_
      rw [Jvp hs,Option.bind_some]
      show Is (bif Jrc l (Ej l a)[i] then _ else _) _
      cases hend:Jrc l (Ej l a)[i] with
      | true =>
       simp only [cond_true]
       refine Is.bind (Is.app (by simp only [List.length_cons,List.length_nil,Kn,Enc.b]; omega)) fun M hM=>?_
       subst hM
       exact Is.val rfl
      | false =>
       simp only [cond_false]
       refine Is.at hx ?_
       rw [Nq hs.jo,Option.bind_some]
       have f2:=(Jla.1 hft).2.1
       refine (Jok hs e n ⟨s⟩ _ _ f2 (by omega) (by show s.length+_≤_; rw [hlen2,show 13 - (way.length+1)=12 - way.length by omega]; omega)).bind fun r hr=>?_
       rw [hlen2,show 13 - (way.length+1)=12 - way.length by omega] at hr
       exact Is.val (by rw [hr])
    ·cases hv
     exact Is.val ⟨_,by rw [Va (by omega) (by omega)]; rfl,rfl⟩
   ·simp only [Ys]
    rw [decide_eq_false (by omega),cond_false]
    exact Is.val (by rw [hI,List.take_length])
  ·cases hv
   exact Is.val rfl
end PM
/-
 PLAIN, ROUTES B: the reference's routes that begin at a signal, and all of them, exactly.
-/
namespace PM
open Go Go.RowKit
theorem Is.sadd {a b:ByteArray} (h:a.size+b.size≤9223372036854775807):Is (Jea a b) fun M=>M=a++b:=⟨a++b,by unfold Jea; rw [if_pos h],rfl⟩
def sgN (l:Je) (i:Int):ByteArray:=((l.Signals[i.toNat]?).map (·.Name)).getD ByteArray.empty
def Kby : ByteArray:=ByteArray.mk #[45,101,110,100]
def Ju5 : ByteArray:=ByteArray.mk #[45]
def Kdo : ByteArray:=ByteArray.mk #[46]
/-- The name of a route, without a number. -/
def Jcq (l:Je) (i x:Int):ByteArray:=if x<0 then sgN l i++Kby else sgN l i++Ju5++sgN l x
theorem Jo3 {l:Je} {i:Int} {y:Ki} (h:l.Signals[i.toNat]?=some y):sgN l i=y.Name:=by unfold sgN; rw [h]; rfl
theorem Jf6 {l:Je} (h:Sm l) (i:Int):(sgN l i).size≤1048576:=by
 unfold sgN
 cases hy:l.Signals[i.toNat]? with
 | none=>simp
 | some y=>exact h.sgn y (List.mem_of_getElem? hy)
theorem Jtv {l:Je} (h:Sm l) (i x:Int):(Jcq l i x).size≤3000000:=by
 have h1:=Jf6 h i
 have h2:=Jf6 h x
 have h3:Kby.size=4:=rfl
 have h4:Ju5.size=1:=rfl
 unfold Jcq
 split
 ·rw [ByteArray.size_append]; omega
 ·rw [ByteArray.size_append,ByteArray.size_append]; omega
theorem Jqj {l:Je} (h:Sm l) {i x:Int} (hi:0≤i∧i<(l.Signals.length:Nat)) (hx:x = -1∨(0≤x∧x<(l.Signals.length:Nat))):Wm l i x=some (Jcq l i x):=by
 have:Is (Wm l i x) fun M=>M=Jcq l i x:=by
  unfold Wm Jcq
  have h1:=Jf6 h i
  have h2:=Jf6 h x
  have h3:Kby.size=4:=rfl
  have h4:Ju5.size=1:=rfl
  refine Is.cond (fun h0=>?_) fun h0=>?_
  ·rw [if_pos (of_decide_eq_true h0)]
   refine (Is.ix hi.1 hi.2).bind fun y hy=>?_
   rw [← Jo3 hy]
   exact (Is.sadd (b:=Kby) (by rw [h3]; omega)).bind fun M hM=>Is.val hM
  ·rw [if_neg (of_decide_eq_false h0)]
   have h0:=of_decide_eq_false h0
   refine (Is.ix hi.1 hi.2).bind fun y hy=>?_
   rw [← Jo3 hy]
   refine (Is.sadd (b:=Ju5) (by rw [h4]; omega)).bind fun M hM=>?_
   have hM1:M.size=(sgN l i).size+1:=by rw [hM,ByteArray.size_append,h4]
   refine (Is.ix (by omega) (by omega)).bind fun z hz=>?_
   rw [← Jo3 hz]
   exact (Is.sadd (by omega)).bind fun M' hM'=>Is.val (by rw [hM',hM])
 obtain ⟨M,h1,rfl⟩:=this
 exact h1
theorem Jud {n:Int} (h0:0≤n) (h1:n<1000000):Is (Ym n) fun M=>M.size≤6:=by
 unfold Ym
 refine Is.onInl (θ:=fun o=>∃ M,o=.inl M∧M.size≤6) ?_ (fun v hv=>?_) (fun b hb=>by obtain ⟨x,hx,_⟩:=hb; cases hx)
 ·refine Is.loop (mk:=fun _ (s:Int×ByteArray)=>s) 6 (fun i s=>0≤s.1∧s.1<10 ^ (6 - i)∧s.2.size≤i) (n,ByteArray.empty) ⟨h0,h1,Nat.le_refl _⟩ (fun i s hi hI=>?_) (fun s hI=>?_)
  ·obtain ⟨x,b⟩:=s
   obtain ⟨g1,g2,g3⟩:=hI
   simp only at g1 g2 g3
   simp only [Et]
   refine Is.cond (fun hx=>?_) fun _=>Is.val ⟨b,rfl,by omega⟩
   have hx:=of_decide_eq_true hx
   have hs:∀ y:Int,(bytesOf [y]).size=1:=fun y=>rfl
   have hp:(10:Int) ^ (6 - i)=10 ^ (6 - (i+1)) * 10:=by rw [show 6 - i=(6 - (i+1))+1 by omega,Int.pow_succ]
   have hle:(10:Int) ^ (6 - i)≤1000000:=by
    have:i=0∨i=1∨i=2∨i=3∨i=4∨i=5:=by omega
    rcases this with rfl|rfl|rfl|rfl|rfl|rfl <;> decide
   refine (Is.sadd (by rw [hs]; omega)).bind fun M hM=>Is.val ⟨(w64 (x.tdiv 10),M),rfl, ?_⟩
   have hd:x.tdiv 10=x / 10:=Int.tdiv_eq_ediv_of_nonneg g1
   have hw:w64 (x.tdiv 10)=x / 10:=by rw [hd]; exact Va (by omega) (by omega)
   refine ⟨by simp only [hw]; omega,by simp only [hw]; omega, ?_⟩
   simp only [hM,ByteArray.size_append,hs]; omega
  ·obtain ⟨x,b⟩:=s
   obtain ⟨g1,g2,g3⟩:=hI
   simp only at g1 g2 g3
   simp only [Et]
   rw [decide_eq_false (by simp at g2; omega),cond_false]
   exact Is.val ⟨b,rfl,g3⟩
 ·obtain ⟨M,e1,e2⟩:=hv
  cases e1
  exact Is.val e2
/-- The digits of a number. -/
noncomputable def Kbm (n:Nat):ByteArray:=(Ym (n:Int)).getD ByteArray.empty
theorem Jtz {n:Nat} (h:n<1000000):Ym (n:Int)=some (Kbm n)∧(Kbm n).size≤6:=by
 obtain ⟨M,h1,h2⟩:=Jud (n:=(n:Int)) (by omega) (by omega)
 unfold Kbm
 rw [h1]
 exact ⟨rfl,h2⟩
/-! ### The routes of a signal -/
def Juy (p:List Jd):Jj:=match p.getLast? with|some s=>⟨s.El,s.Out⟩|none=>⟨0,0⟩
def Hf (l:Je) (p:List Jd):Int:=Sh l.Signals (Juy p)
def Bi (P:List (List Jd)) (k:Nat):List Jd:=(P[k]?).getD []
/-- How many of the first k + 1 paths have the name of the path k. -/
def Jje (l:Je) (i:Int) (P:List (List Jd)) (x:Int):Nat→Nat
 | 0=>1
 | k+1=>if Jcq l i (Hf l (Bi P k))=Jcq l i x then Jje l i P x k+1 else Jje l i P x k
theorem Jno (l:Je) (i:Int) (P:List (List Jd)) (x:Int) (k:Nat):Jje l i P x (k+1)=if Jcq l i (Hf l (Bi P k))=Jcq l i x then Jje l i P x k+1 else Jje l i P x k:=rfl
theorem Jp4 (l:Je) (i:Int) (P:List (List Jd)) (x:Int):∀ k,Jje l i P x k≤k+1
 | 0=>Nat.le_refl _
 | k+1=>by
  have:=Jp4 l i P x k
  rw [Jno]
  split <;> omega
noncomputable def Jxk (l:Je) (i:Int) (P:List (List Jd)) (k:Nat):ByteArray :=
 if 1<Jje l i P (Hf l (Bi P k)) k then Jcq l i (Hf l (Bi P k))++Kdo++Kbm (Jje l i P (Hf l (Bi P k)) k) else Jcq l i (Hf l (Bi P k))
def atS (l:Je) (i:Int):Jj:=((l.Signals[i.toNat]?).map (·.At)).getD ⟨0,0⟩
noncomputable def Jub (l:Je) (i:Int) (P:List (List Jd)) (k:Nat):Jm :=
 Jm.mk (Jxk l i P k) i (Hf l (Bi P k)) (Bi P k) (Jjm l (Bi P k)) (Xe l (Bi P k)) (Jha l (atS l i).El) (w64 (Ur l (Bi P k))) [] [] [] [] [] []
noncomputable def Jg1 (l:Je) (i:Int):List (List Jd):=Rw l (Qm l (atS l i)).1 13 (Qm l (atS l i)).1 []
noncomputable def Jb8 (l:Je) (i:Int):List Jm :=
 if 0≤i∧i<(l.Signals.length:Nat) then (if (Qm l (atS l i)).2=true then (List.range (Jg1 l i).length).map (Jub l i (Jg1 l i)) else []) else []
theorem Jl4 (l:Je) (i:Int):(Jg1 l i).length≤8192:=Jeu l _ 13 _ _
theorem Jny (l:Je) (i:Int):(Jb8 l i).length≤8192:=by
 have:=Jl4 l i
 unfold Jb8
 split
 ·split
  ·simpa using this
  ·simp
 ·simp
theorem Jdf {P:List (List Jd)} {k:Nat} (h:k<P.length):P[k]?=some (Bi P k):=by
 unfold Bi; rw [List.getElem?_eq_getElem h]; rfl
theorem Juu {p:List Jd} (h:0<p.length) (h2:p.length≤1000):∃ s,p.getLast?=some s∧ixO p (w64 (((p.length:Nat):Int) - 1))=some s:=by
 have hw:w64 (((p.length:Nat):Int) - 1)=((p.length - 1:Nat):Int):=by rw [Va (by omega) (by omega)]; omega
 rw [hw,List.getLast?_eq_getElem?]
 have:=List.getElem?_eq_getElem (l:=p) (i:=p.length - 1) (by omega)
 exact ⟨_,this,Wk this⟩
theorem Jnv {l:Je} (h:Sm l) {p:List Jd} {s:Jd} (hs:p.getLast?=some s):Bm l s=some (Hf l p,Jrc l s):=by
 rw [Jvp h]
 unfold Hf Juy
 rw [hs]
theorem Kab {l:Je} (h:Sm l) {i:Int} (hi:0≤i∧i<(l.Signals.length:Nat)) {P:List (List Jd)} (hP:∀ p∈P,0<p.length∧p.length≤12) (r:Jz) (hr:r.L=P) (k:Nat) (hk:k<P.length) (hk2:P.length≤8192) (x:Int) (z:Bool) (hx:x = -1∨(0≤x∧x<(l.Signals.length:Nat))) :
  Is (Km (Fg l i r (k:Int) (x,z)) (1,0)) fun o=>o=.inl ((Jje l i P x k:Nat):Int):=by
 refine Is.loop (mk:=fun j (s:Int)=>(s,(j:Int))) k (fun j s=>s=((Jje l i P x j:Nat):Int)) (1:Int) rfl (fun j s hj hI=>?_) (fun s hI=>?_)
 ·have hc:=Jp4 l i P x j
  have hjP:j<P.length:=by omega
  have hN:(((r.L:List (List Jd)).map cellsOf).length)=P.length:=by rw [List.length_map,hr]
  simp only [Fg]
  rw [decide_eq_true (by omega),cond_true]
  refine Is.onInl (θ:=fun o=>o=.inl ((Jje l i P x (j+1):Nat):Int)) ?_ (fun v hv=>?_) (fun b hb=>by cases hb)
  ·have hg:=Jdf hjP
   have hld:Eb r.L (((r.L:List (List Jd)).map cellsOf).length) j=some (Bi P j):=by rw [Ju1 (by rw [List.length_map]),hr]; exact hg
   have hxi:Fc 0 (((r.L:List (List Jd)).map cellsOf).length) (j:Int)=some j:=by rw [Jq9 0 (by rw [hN]; exact hjP),Nat.zero_add]
   have hp:=hP _ (List.mem_of_getElem? hg)
   obtain ⟨s1,e1,e2⟩:=Juu hp.1 (by omega)
   simp only [hxi,hld,Option.bind_some]
   rw [e2,Option.bind_some,Jnv h e1,Option.bind_some]
   have hex:Hf l (Bi P j) = -1∨(0≤Hf l (Bi P j)∧Hf l (Bi P j)<(l.Signals.length:Nat)):=Jlj l.Signals (Juy (Bi P j))
   show Is ((Wm l i (Hf l (Bi P j))).bind _) _
   rw [Jqj h hi hex,Option.bind_some]
   show Is ((Wm l i x).bind _) _
   rw [Jqj h hi hx,Option.bind_some,Jno]
   refine Is.ite Vb (fun he=>Is.val ?_) (fun he=>Is.val ?_)
   ·rw [if_pos he,hI,Gx (by omega)]
   ·rw [if_neg he,hI]
  ·cases hv
   exact Is.val ⟨_,by rw [Gx (by omega)],rfl⟩
 ·simp only [Fg]
  rw [decide_eq_false (by omega),cond_false]
  exact Is.val (by rw [hI])
theorem Kau {l:Je} (h:Sm l) (i:Int):Fs l i=some (Jb8 l i):=by
 have:Is (Fs l i) fun r=>r=Jb8 l i:=by
  unfold Fs
  refine Is.bind (φ:=fun b=>b=true↔(i<0∨((l.Signals.length:Nat):Int)≤i)) (Is.or Vb fun _=>Is.val Vb) fun b hb=>?_
  refine Is.ite hb (fun hp=>Is.val ?_) fun hp=>?_
  ·unfold Jb8; rw [if_neg (by omega)]
  have hi:0≤i∧i<(l.Signals.length:Nat):=by omega
  refine (Is.ix hi.1 hi.2).bind fun y hy=>?_
  have hat:atS l i=y.At:=by unfold atS; rw [hy]; rfl
  rw [Vi h.jo,Option.bind_some,← hat]
  unfold Jb8
  rw [if_pos hi]
  cases hj:(Qm l (atS l i)).2 with
  | false=>exact Is.val (by rw [if_neg (by simp)])
  | true =>
   rw [if_pos rfl]
   simp only [Bool.not_true,cond_false]
   have hse:=Jok h (Qm l (atS l i)).1 (Nl+1) ⟨[]⟩ (Qm l (atS l i)).1 [] (by simp) (by unfold Nl; simp) (by simp)
   have hse:Is (Fd ⟨[]⟩ l (Qm l (atS l i)).1 (Qm l (atS l i)).1 []) _:=hse
   refine hse.bind fun r hr=>?_
   have hr:r.L=Jg1 l i:=hr
   have hPl:=Jl4 l i
   have hP:∀ p∈Jg1 l i,0<p.length∧p.length≤12:=fun p hp=>by
    obtain ⟨⟨s,hs,_⟩,h2,_⟩:=Ta hp
    exact ⟨Uc hs,h2⟩
   generalize Jg1 l i=P at hr hPl hP
   have hN:(((r.L:List (List Jd)).map cellsOf).length)=P.length:=by rw [List.length_map,hr]
   refine Is.onInl (θ:=fun o=>o=.inl ((List.range P.length).map (Jub l i P))) ?_ (fun v hv=>?_) (fun b hb=>by cases hb)
   ·refine Is.loop (mk:=fun k (s:List Jm)=>((k:Int),s)) P.length (fun k s=>s=(List.range k).map (Jub l i P)) [] rfl (fun k s hk hI=>?_) (fun s hI=>?_)
    ·have hg:=Jdf hk
     have hsl:s.length=k:=by rw [hI]; simp
     have hld:Eb r.L (((r.L:List (List Jd)).map cellsOf).length) k=some (Bi P k):=by rw [Ju1 (by rw [List.length_map]),hr]; exact hg
     have hxi:Fc 0 (((r.L:List (List Jd)).map cellsOf).length) (k:Int)=some k:=by rw [Jq9 0 (by rw [hN]; exact hk),Nat.zero_add]
     have hp:=hP _ (List.mem_of_getElem? hg)
     obtain ⟨s1,e1,e2⟩:=Juu hp.1 (by omega)
     have hex:Hf l (Bi P k) = -1∨(0≤Hf l (Bi P k)∧Hf l (Bi P k)<(l.Signals.length:Nat)):=Jlj l.Signals (Juy (Bi P k))
     have hc:=Jp4 l i P (Hf l (Bi P k)) k
     have hts:=Jtv h i (Hf l (Bi P k))
     simp only [Mh]
     rw [decide_eq_true (by rw [hN]; omega),cond_true,hxi,Option.bind_some,hld,Option.bind_some,e2,Option.bind_some,Jnv h e1,Option.bind_some]
     show Is ((Wm l i (Hf l (Bi P k))).bind _) _
     rw [Jqj h hi hex,Option.bind_some,Sv l _ (by omega),Option.bind_some,Mx l _ (by omega),Option.bind_some,Ja5 l _ (by omega),Option.bind_some]
     refine (Is.eq (show ixO l.Signals i=some y from ?_)).bind fun y' hy'=>?_
     ·have:=Is.ix (L:=l.Signals) hi.1 hi.2
      obtain ⟨z,z1,z2⟩:=this
      rw [hy] at z2; cases z2; exact z1
     subst hy'
     rw [Dm,Option.bind_some]
     refine Is.onInl (Kab h hi hP r hr k hk hPl (Hf l (Bi P k)) _ hex) (fun v hv=>?_) (fun b hb=>by cases hb)
     cases hv
     refine Is.onInl (θ:=fun o=>o=.inl (Jxk l i P k)) ?_ (fun v hv=>?_) (fun b hb=>by cases hb)
     ·unfold Jxk
      refine Is.cond (fun h1=>?_) fun h1=>?_
      ·have h1:=of_decide_eq_true h1
       rw [if_pos (by omega)]
       have h4:Kdo.size=1:=rfl
       refine (Is.sadd (b:=Kdo) (by rw [h4]; omega)).bind fun M hM=>?_
       have hM1:M.size≤3000001:=by rw [hM,ByteArray.size_append,h4]; omega
       obtain ⟨d1,d2⟩:=Jtz (n:=Jje l i P (Hf l (Bi P k)) k) (by omega)
       rw [d1,Option.bind_some]
       refine (Is.sadd (by omega)).bind fun M' hM'=>Is.val ?_
       rw [hM',hM]
      ·have h1:=of_decide_eq_false h1
       rw [if_neg (by omega)]
       exact Is.val rfl
     ·cases hv
      refine (Is.app (by simp only [List.length_cons,List.length_nil,Kn,Enc.b]; omega)).bind fun M hM=>?_
      refine Is.val ⟨_,by rw [Gx (by omega)], ?_⟩
      rw [hM,hI,List.range_succ,List.map_append,← hat]
      rfl
    ·simp only [Mh]
     rw [decide_eq_false (by rw [hN]; omega),cond_false]
     exact Is.val (by rw [hI])
   ·cases hv
    exact Is.val rfl
 obtain ⟨r,h1,rfl⟩:=this
 exact h1
noncomputable def Jjr (l:Je):List Jm:=(List.range l.Signals.length).flatMap fun i=>Jb8 l (i:Nat)
theorem Kdg {l:Je} (h:Sm l):Iz l=some (if chk l=0 then (if 48<(Jjr l).length then ([],2) else (Jjr l,0)) else ([],chk l)):=by
 have:Is (Iz l) fun r=>r=(if chk l=0 then (if 48<(Jjr l).length then ([],2) else (Jjr l,0)) else ([],chk l)):=by
  unfold Iz
  rw [Jck h,Option.bind_some]
  refine Is.ifn Vb (fun h0=>Is.val (by rw [if_neg h0])) fun h0=>?_
  rw [if_pos h0]
  have hsg:=h.sg
  refine Is.onInl (θ:=fun o=>o=.inl (Jjr l)) ?_ (fun v hv=>?_) (fun b hb=>by cases hb)
  ·refine Is.loop (mk:=fun k (s:List Jm)=>((k:Int),s)) l.Signals.length (fun k s=>s=(List.range k).flatMap fun i=>Jb8 l (i:Nat)) [] rfl (fun k s hk hI=>?_) (fun s hI=>?_)
   ·have hsl:=Sq (fun i:Nat=>Jb8 l (i:Int)) 8192 (List.range k) fun i _=>Jny l _
    rw [← hI,List.length_range] at hsl
    have hf:=Jny l (k:Int)
    simp only [Nn]
    rw [decide_eq_true (by omega),cond_true,Kau h,Option.bind_some]
    refine (Is.app (by simp only [Kn,Enc.b]; omega)).bind fun M hM=>?_
    refine Is.val ⟨_,by rw [Gx (by omega)], ?_⟩
    rw [hM,hI,List.range_succ,List.flatMap_append]; simp
   ·simp only [Nn]
    rw [decide_eq_false (by omega),cond_false]
    exact Is.val (by rw [hI]; rfl)
  ·cases hv
   refine Is.cond (fun h1=>Is.val ?_) fun h1=>Is.val ?_
   ·have h1:=of_decide_eq_true h1
    rw [if_pos (by omega)]
   ·have h1:=of_decide_eq_false h1
    rw [if_neg (by omega)]
 obtain ⟨r,h1,rfl⟩:=this
 exact h1
end PM
/-
 PLAIN, OVERLAPS: what an overlap is; the statements OverlapApart and OverlapGrows.
-/
namespace PM
open Go Go.RowKit
/-! ### What an overlap is -/
def stO (l:Je) (a:Jj×Bool) (o:List Jd):Jj×Bool:=match o.getLast? with|some s=>Qm l ⟨s.El,s.Out⟩|none=>a
def Kcs (l:Je) (S:List Int) (lim:Int) (a:Jj×Bool) (o:List Jd):Bool :=
 (stO l a o).2&&decide (w64 (Ur l o)<lim)&&decide (o.length<12) && !(Kaa o (stO l a o).1.El||inS S (Jha l (stO l a o).1.El)) && !(Ej l (stO l a o).1).isEmpty
/-- The steps of an overlap as far as they go. -/
def OvI (l:Je) (S:List Int) (lim:Int) (a:Jj×Bool) (o:List Jd):Prop :=
 ∀ i s,o[i]?=some s→Kcs l S lim a (o.take i)=true∧(Ej l (stO l a (o.take i)).1).head?=some s
structure Ov (l:Je) (S:List Int) (lim:Int) (a:Jj×Bool) (o:List Jd):Prop where
 step:OvI l S lim a o
 stop:Kcs l S lim a o=false
/-! ### The program's steps -/
/-! ### The routes of a layout -/
structure RtOK (l:Je) (r:Jm):Prop where
 ex:r.Exit = -1∨(0≤r.Exit∧r.Exit<(l.Signals.length:Nat))
 p0:0<r.Path.length
 p1:r.Path.length≤12
 se:r.Sections=Xe l r.Path
 po:r.Points=Jjm l r.Path
 fl:r.Flank=[]
 gu:r.Guards=[]
 ga:r.Gaps=[]
theorem Kbf {l:Je} {r:Jm} (h:r∈Jjr l):RtOK l r:=by
 unfold Jjr at h
 rw [List.mem_flatMap] at h
 obtain ⟨i,hi,h⟩:=h
 unfold Jb8 at h
 split at h
 ·split at h
  ·rw [List.mem_map] at h
   obtain ⟨k,hk,rfl⟩:=h
   rw [List.mem_range] at hk
   have hg:=Jdf hk
   obtain ⟨⟨s,hs,_⟩,h2,_⟩:=Ta (List.mem_of_getElem? hg)
   exact ⟨Jlj _ _,Uc hs,h2,rfl,rfl,rfl,rfl,rfl⟩
  ·cases h
 ·cases h
/-! ### Facts of the steps -/
structure OvStep (l:Je) (S:List Int) (lim:Int) (a:Jj×Bool) (o:List Jd) (i:Nat) (s:Jd):Prop where
 on:(stO l a (o.take i)).2=true
 el:s.El=(stO l a (o.take i)).1.El
 si:s.In=(stO l a (o.take i)).1.Side
 po:(Tu l s).2=true
 hd:(Ej l (stO l a (o.take i)).1).head?=some s
 lt:w64 (Ur l (o.take i))<lim
 cov:∀ k t,k<i→o[k]?=some t→t.El≠s.El
 sec:Jha l s.El∉S
/-! ### A greater overlap -/
end PM
/-
 PLAIN, FLANK A: what protects an end: the program's search and the reference's.
-/
namespace PM
open Go Go.RowKit
/-! ### Members -/
def ovB (L:List Jd) (e:Int):Bool:=decide (∃ x∈L,x.El=e)
def Jke (L:List Jh) (x:Jh):Bool:=decide (x∈L)
def Nb (r:Jm) (e:Int):Bool:=ovB r.Path e||ovB r.Over e
def Jiu (r:Jm) (x:Jh):Bool:=Jke r.Points x||Jke r.OverPoints x||Jke r.Flank x
theorem Jn6 (x y:Jh):Wd x y=true↔x=y:=by
 cases x; cases y; simp [Wd]
theorem Ny (o:List Jd) (e:Int) (h:o.length≤1048576):Yq o e=some (ovB o e):=by
 have:Is (Yq o e) fun b=>b=ovB o e:=by
  unfold Yq
  refine Is.all (L:=o) (fun _ x=>¬ x.El=e) () (by omega) (fun i x hx hi hI=>?_) ?_ (fun hn=>Is.val ?_)
  ·unfold My
   refine Is.inb hi (Is.at hx ?_)
   refine Is.ite Vb (fun hc=>Is.val ?_) (fun hc=>Is.val ⟨rfl,hc⟩)
   exact (decide_eq_true (⟨x,List.mem_of_getElem? hx,hc⟩:∃ x∈o,x.El=e)).symm
  ·simp [My]
  ·refine Eq.symm (decide_eq_false ?_)
   rintro ⟨x,hx,hc⟩
   obtain ⟨i,hi⟩:=List.getElem?_of_mem hx
   exact hn i x hi hc
 obtain ⟨b,h1,h2⟩:=this
 rw [h1,h2]
theorem Pu (L:List Jh) (e:Jh) (h:L.length≤1048576):Be L e=some (Jke L e):=by
 have:Is (Be L e) fun b=>b=Jke L e:=by
  unfold Be
  refine Is.all (L:=L) (fun _ x=>¬ x=e) () (by omega) (fun i x hx hi hI=>?_) ?_ (fun hn=>Is.val ?_)
  ·unfold Nt
   refine Is.inb hi (Is.at hx ?_)
   refine Is.ite (Jn6 _ _) (fun hc=>Is.val ?_) (fun hc=>Is.val ⟨rfl,hc⟩)
   exact (decide_eq_true (hc▸List.mem_of_getElem? hx:e∈L)).symm
  ·simp [Nt]
  ·refine Eq.symm (decide_eq_false ?_)
   intro hx
   obtain ⟨i,hi⟩:=List.getElem?_of_mem hx
   exact hn i e hi rfl
 obtain ⟨b,h1,h2⟩:=this
 rw [h1,h2]
/-- Lists of a route are short. -/
structure Jds (r:Jm):Prop where
 path:r.Path.length≤1000
 over:r.Over.length≤1000
 pts:r.Points.length≤1000
 ops:r.OverPoints.length≤1000
 flank:r.Flank.length≤1000
 secs:r.Sections.length≤1000
 osecs:r.OverSections.length≤1000
 guards:r.Guards.length≤1000
 gaps:r.Gaps.length≤1000
theorem Jt0 {r:Jm} (h:Jds r) (e:Int):((Yq r.Path e).bind fun r30=>((bif r30 then some true else ((Yq r.Over e).bind fun r32=>some r32)):Option Bool))=some (Nb r e):=by
 have:=h.path; have:=h.over
 rw [Ny _ _ (by omega),Ny _ _ (by omega)]
 simp only [Option.bind_some,Xa,Bool.cond_true_left]; rfl
theorem Jc2 {r:Jm} (h:Jds r) (x:Jh):He r x=some (Jiu r x):=by
 have:=h.pts; have:=h.ops; have:=h.flank
 unfold He
 rw [Pu _ _ (by omega),Pu _ _ (by omega),Pu _ _ (by omega)]
 simp only [Option.bind_some,Xa,Bool.cond_true_left]; rfl
theorem Dq {l:Je} (h:l.Signals.length≤1048576) (e:Jj):Vu l e=some (Sh l.Signals e):=by
 have:Is (Vu l e) fun r=>r=Sh l.Signals e:=by
  unfold Vu
  refine Is.all (L:=l.Signals) (fun _ x=>x.At≠e) () (by omega) (fun i x hx hi hI=>?_) ?_ (fun hn=>?_)
  ·unfold Zf
   refine Is.inb hi (Is.at hx (Is.ite (Li _ _) (fun hc=>Is.val ?_) fun hc=>Is.val ⟨rfl,hc⟩))
   exact (Jnp hx hc hI).symm
  ·simp [Zf]
  ·refine Is.val (Jn3 fun s hs=>?_).symm
   obtain ⟨i,hi⟩:=List.getElem?_of_mem hs
   exact hn i s hi
 obtain ⟨r,h1,rfl⟩:=this
 exact h1
/-! ### What protects an end -/
def z0 : Jh:=⟨0,0⟩
def Jcb (l:Je) (i:Int):Int:=((l.Elements[i.toNat]?).map (·.Kind)).getD 0
def Jj4 (k a:Int):Int:=(Jmq k a).headD 0
/-- P: elements that the route passes; N: positions that it needs. -/
def Je3 (l:Je) (P:Int→Bool) (N:Jh→Bool):Nat→Jj→Jh×Int×Bool
 | 0,_=>(z0,-1,false)
 | n+1,e =>
  if (Qm l e).2=false then (z0,-1,true) else
  if 0≤Sh l.Signals (Qm l e).1 then (z0,Sh l.Signals (Qm l e).1,true) else
  if P (Qm l e).1.El=true then (z0,-1,true) else
  if Jcb l (Qm l e).1.El=2 then
   (if (Qm l e).1.Side=0 then (z0,-1,false) else if N ⟨(Qm l e).1.El,(Qm l e).1.Side⟩=true then (z0,-1,false) else (⟨(Qm l e).1.El,3 - (Qm l e).1.Side⟩,-1,true))
  else Je3 l P N n ⟨(Qm l e).1.El,Jj4 (Jcb l (Qm l e).1.El) (Qm l e).1.Side⟩
/-- An end that exists: its element, its sides. -/
structure Ket (l:Je) (f:Jj) (x:Jw):Prop where
 has:Uv l f.El=true
 ix:ixO l.Elements f.El=some x
 get:l.Elements[f.El.toNat]?=some x
 kind:Jcb l f.El=x.Kind
 kinds:x.Kind=1∧(f.Side=0∨f.Side=1)∨x.Kind=2∧(f.Side=0∨f.Side=1∨f.Side=2)∨x.Kind=3∧(f.Side=0∨f.Side=1∨f.Side=2∨f.Side=3)
theorem OkL.joins {l:Je} (hl:OkL l):Jo6 l:=⟨fun j hj=>⟨(hl.joint j hj).1,(hl.joint j hj).2.1⟩,hl.ends⟩
theorem Jlm {l:Je} (hl:OkL l) {e:Jj} (h:(Qm l e).2=true):∃ x,Ket l (Qm l e).1 x:=by
 have hex:exS l (Qm l e).1=true:=Jsj hl.joins (e:=e) (f:=(Qm l e).1) (by rw [← h])
 have hh:=Jqm hex
 obtain ⟨x,h1,h2⟩:=Wf hh
 have hr:=hl.elem.1 x (List.mem_of_getElem? h2)
 refine ⟨x,hh,h1,h2,by simp [Jcb,h2], ?_⟩
 simp only [exS,h2,Bool.and_eq_true,decide_eq_true_eq] at hex
 obtain ⟨⟨_,hs⟩,ht⟩:=hex
 have hk:=hr.1
 unfold Tx at ht
 rcases (show x.Kind=1∨x.Kind=2∨x.Kind=3 by omega) with e1|e1|e1 <;> simp only [e1] at ht ⊢ <;> simp at ht ⊢ <;> omega
theorem Jtc {k a:Int} (h:k=1∧(a=0∨a=1)∨k=3∧(a=0∨a=1∨a=2∨a=3)):Ss k a 0=some (Jj4 k a,true):=by
 rcases h with ⟨rfl,rfl|rfl⟩|⟨rfl,rfl|rfl|rfl|rfl⟩ <;> kernel_rfl
theorem Kcw {r:Jm} (h:Jds r) {f:Jj} (hs:f.Side=1∨f.Side=2) :
  Oe r f=some (if Jiu r ⟨f.El,f.Side⟩=true then (z0,-1,false) else (⟨f.El,3 - f.Side⟩,-1,true)):=by
 unfold Oe
 rcases hs with hs|hs
 ·simp only [hs,show decide ((1:Int)=2)=false from rfl,cond_false,onInl,Vn,Option.bind_some,Jc2 h]
  cases hn:Jiu r ⟨f.El,1⟩ <;> simp [z0]
 ·simp only [hs,show decide ((2:Int)=2)=true from rfl,cond_true,onInl,Vn,Option.bind_some,Jc2 h]
  cases hn:Jiu r ⟨f.El,2⟩ <;> simp [z0,Vn,hn]
section
variable {l:Je} (hs:Sm l) (hl:OkL l) {r:Jm} (hr:Jds r)
include hs hl hr
theorem Juh : ∀ (n i:Nat) (e:Jj),i+n=4 →
  onInl (α:=Unit) (β:=(Jh×Int×Bool)) (Km (Qt l r) ((i:Int),e.El,e.Side)) (fun _=>some (z0,-1,false))=some (Je3 l (Nb r) (Jiu r) n e):=by
 intro n
 induction n with
 | zero =>
  intro i e hi
  have:i=4:=by omega
  subst this
  have hstep:Qt l r ((4:Nat),e.El,e.Side)=some (.inr (.inl ())):=rfl
  rw [Qu hstep]; rfl
 | succ n ih =>
  intro i e hi
  have hi4:decide ((i:Int)<4)=true:=decide_eq_true (by omega)
  have hov:=Jt0 hr (Qm l e).1.El
  unfold Je3
  by_cases hj:(Qm l e).2=false
  ·have hstep:Qt l r ((i:Int),e.El,e.Side)=some (.inr (.inr (z0,-1,true))):=by
    unfold Qt
    simp only [hi4,cond_true,Vi hs.jo,Option.bind_some,hj,Bool.not_false,cond_true]; rfl
   rw [Qu hstep,if_pos hj]; rfl
  ·have hj':(Qm l e).2=true:=by simpa using hj
   obtain ⟨x,hx⟩:=Jlm hl hj'
   rw [if_neg hj]
   by_cases hg:0≤Sh l.Signals (Qm l e).1
   ·have hstep:Qt l r ((i:Int),e.El,e.Side)=some (.inr (.inr (z0,Sh l.Signals (Qm l e).1,true))):=by
     unfold Qt
     simp only [hi4,cond_true,Vi hs.jo,Option.bind_some,hj',Bool.not_true,cond_false,Dq hs.sg,decide_eq_true hg]; rfl
    rw [Qu hstep,if_pos hg]; rfl
   ·rw [if_neg hg]
    have hg':decide (0≤Sh l.Signals (Qm l e).1)=false:=decide_eq_false hg
    have hpa:=hr.path
    have hpo:=hr.over
    have o1:=Ny r.Path (Qm l e).1.El (by omega)
    have o2:=Ny r.Over (Qm l e).1.El (by omega)
    by_cases hp:Nb r (Qm l e).1.El=true
    ·have hstep:Qt l r ((i:Int),e.El,e.Side)=some (.inr (.inr (z0,-1,true))):=by
      unfold Qt
      simp only [Nb] at hp
      simp only [hi4,cond_true,Vi hs.jo,Option.bind_some,hj',Bool.not_true,cond_false,Dq hs.sg,hg',o1,o2,Xa,Bool.cond_true_left,hp]; rfl
     rw [Qu hstep,if_pos hp]; rfl
    ·rw [if_neg hp]
     have hp':(ovB r.Path (Qm l e).1.El||ovB r.Over (Qm l e).1.El)=false:=by simpa [Nb] using hp
     have hin:=hx.has
     simp only [Uv,Bool.and_eq_true,decide_eq_true_eq] at hin
     have d1:decide ((Qm l e).1.El<0)=false:=decide_eq_false (by omega)
     have d2:decide (((l.Elements.length:Nat):Int)≤(Qm l e).1.El)=false:=decide_eq_false (by omega)
     have hk:=hx.kinds
     by_cases h2:Jcb l (Qm l e).1.El=2
     ·rw [if_pos h2]
      rw [hx.kind] at h2
      by_cases h0:(Qm l e).1.Side=0
      ·have hstep:Qt l r ((i:Int),e.El,e.Side)=some (.inr (.inr (z0,-1,false))):=by
        unfold Qt
        simp only [hi4,cond_true,Vi hs.jo,Option.bind_some,hj',Bool.not_true,cond_false,Dq hs.sg,hg',o1,o2,Xa,Bool.cond_true_left,hp',d1,d2,Bool.false_or,hx.ix,h2,h0,decide_true,Bool.and_self]; rfl
       rw [Qu hstep,if_pos h0]; rfl
      ·have hsd:(Qm l e).1.Side=1∨(Qm l e).1.Side=2:=by omega
       rw [if_neg h0]
       have hstep:Qt l r ((i:Int),e.El,e.Side)=some (.inr (.inr (if Jiu r ⟨(Qm l e).1.El,(Qm l e).1.Side⟩=true then (z0,-1,false) else (⟨(Qm l e).1.El,3 - (Qm l e).1.Side⟩,-1,true)))):=by
        unfold Qt
        simp only [hi4,cond_true,Vi hs.jo,Option.bind_some,hj',Bool.not_true,cond_false,Dq hs.sg,hg',o1,o2,Xa,Bool.cond_true_left,hp',d1,d2,Bool.false_or,hx.ix,h2,h0,decide_true,decide_false,Bool.and_false,Kcw hr hsd]
       rw [Qu hstep]; rfl
     ·rw [if_neg h2]
      rw [hx.kind] at h2 ⊢
      have hka:x.Kind=1∧((Qm l e).1.Side=0∨(Qm l e).1.Side=1)∨x.Kind=3∧((Qm l e).1.Side=0∨(Qm l e).1.Side=1∨(Qm l e).1.Side=2∨(Qm l e).1.Side=3):=by omega
      have hstep:Qt l r ((i:Int),e.El,e.Side)=some (.inl (((i+1:Nat):Int),(Qm l e).1.El,Jj4 x.Kind (Qm l e).1.Side)):=by
       unfold Qt
       simp only [hi4,cond_true,Vi hs.jo,Option.bind_some,hj',Bool.not_true,cond_false,Dq hs.sg,hg',o1,o2,Xa,Bool.cond_true_left,hp',d1,d2,Bool.false_or,hx.ix,h2,decide_false,Bool.false_and,Jtc hka]
       rw [Gx (by omega)]
      rw [Vt hstep]
      exact ih (i+1) ⟨(Qm l e).1.El,Jj4 x.Kind (Qm l e).1.Side⟩ (by omega)
theorem Jja (e:Jj):Mr l r e=some (Je3 l (Nb r) (Jiu r) 4 e):=Juh hs hl hr 4 0 e rfl
end
end PM
/-
 PLAIN, FLANK B: the ends beside a route; the settings, guards and gaps that are found.
-/
namespace PM
open Go Go.RowKit
/-! ### The ends beside a step -/
def Jy1 (l:Je) (s:Jd):List Jj :=
 bif (Tu l s).2 then ((List.range (Tx (Jcb l s.El)).toNat).filter fun (i:Nat) => !decide ((i:Int)=s.In) && !decide ((i:Int)=s.Out)).map fun (i:Nat)=>(⟨s.El,(i:Int)⟩:Jj) else []
theorem Jr6 (k:Int):0≤Tx k∧Tx k≤4:=by
 unfold Tx; split
 ·omega
 ·split
  ·omega
  ·split <;> omega
theorem Jmu (l:Je) (s:Jd):(Jy1 l s).length≤4:=by
 unfold Jy1
 cases (Tu l s).2 with
 | false=>simp
 | true =>
  have:=Jr6 (Jcb l s.El)
  simp only [cond_true,List.length_map]
  exact Nat.le_trans (List.length_filter_le _ _) (by simp; omega)
theorem Jba (l:Je) (s:Jd) (hkk:∀ x,l.Elements[s.El.toNat]?=some x→x.Kind=1∨x.Kind=2∨x.Kind=3):Zn l s=some (Jy1 l s):=by
 unfold Zn Jy1
 simp only [Xa,Option.bind_some,Bool.cond_true_left]
 have e:(decide (s.El<0)||decide (((l.Elements.length:Nat):Int)≤s.El)) = !Uv l s.El:=by
  unfold Uv; rw [Bool.eq_iff_iff]; simp
 rw [e]
 cases h:Uv l s.El with
 | false=>simp [Tu,h]
 | true =>
  obtain ⟨x,h1,h2⟩:=Wf h
  have hk:Jcb l s.El=x.Kind:=by simp [Jcb,h2]
  have hp:Tu l s=Po x.Kind s.In s.Out:=by simp [Tu,h,h2]
  simp only [Bool.not_true,cond_false,h1,Option.bind_some,Pd,hp,hk]
  have h4:=Jr6 x.Kind
  obtain ⟨m,hm⟩:∃ m:Nat,Tx x.Kind=(m:Int):=⟨(Tx x.Kind).toNat,by omega⟩
  rw [hm]
  simp only [Int.toNat_natCast]
  have:Is (Km (Ck s x (Po x.Kind s.In s.Out)) (0,([]:List Jj))) fun o=>o=.inl (bif (Po x.Kind s.In s.Out).2 then (((List.range m).filter fun (i:Nat) => !decide ((i:Int)=s.In) && !decide ((i:Int)=s.Out)).map fun (i:Nat)=>(⟨s.El,(i:Int)⟩:Jj)) else []):=by
   refine Is.loop (mk:=fun (i:Nat) (o:List Jj)=>((i:Int),o)) m (fun i o=>o=bif (Po x.Kind s.In s.Out).2 then (((List.range i).filter fun (i:Nat) => !decide ((i:Int)=s.In) && !decide ((i:Int)=s.Out)).map fun (i:Nat)=>(⟨s.El,(i:Int)⟩:Jj)) else []) [] (by cases (Po x.Kind s.In s.Out).2 <;> simp) ?_ ?_
   ·rintro i o hi rfl
    unfold Ck
    have e0:decide ((i:Int)<((m:Nat):Int))=true:=decide_eq_true (by omega)
    simp only [Ro,hm,Option.bind_some,e0,cond_true]
    refine Is.onInl (θ:=fun o=>o=.inl (bif (Po x.Kind s.In s.Out).2 then (((List.range (i+1)).filter fun (i:Nat) => !decide ((i:Int)=s.In) && !decide ((i:Int)=s.Out)).map fun (i:Nat)=>(⟨s.El,(i:Int)⟩:Jj)) else [])) ?_ (fun v hv=>?_) (fun b hb=>by cases hb)
    ·cases hn:(Po x.Kind s.In s.Out).2 with
     | false=>simp only [Bool.false_and,cond_false]; exact Is.val rfl
     | true =>
      simp only [Bool.true_and,cond_true]
      rw [List.range_succ,List.filter_append,List.map_append]
      refine Is.cond (fun hc=>?_) (fun hc=>?_)
      ·have hlen:(((List.range i).filter fun (i:Nat) => !decide ((i:Int)=s.In) && !decide ((i:Int)=s.Out)).map fun (i:Nat)=>(⟨s.El,(i:Int)⟩:Jj)).length≤4:=by
        rw [List.length_map]; exact Nat.le_trans (List.length_filter_le _ _) (by simp; omega)
       refine Is.bind (Is.app (by simp only [List.length_cons,List.length_nil,Kn,Enc.b]; omega)) fun M hM=>?_
       subst hM
       exact Is.val (by simp [hc])
      ·exact Is.val (by simp [hc])
    ·cases hv
     exact Is.val ⟨_,by rw [Gx (by omega)],rfl⟩
   ·rintro o rfl
    unfold Ck
    have e0:decide (((m:Nat):Int)<((m:Nat):Int))=false:=decide_eq_false (by omega)
    simp only [Ro,hm,Option.bind_some,e0,cond_false]
    exact Is.val rfl
  obtain ⟨o,q1,rfl⟩:=this
  simp [q1,onInl,Vn]
def Ew (l:Je) (L:List Jd):List Jj:=L.flatMap (Jy1 l)
theorem Jay (l:Je) (A B:List Jd):Ew l (A++B)=Ew l A++Ew l B:=by simp [Ew]
theorem Rb (l:Je):∀ L:List Jd,(Ew l L).length≤4 * L.length
 | []=>by simp [Ew]
 | s::r=>by
  have h1:=Jmu l s
  have h2:=Rb l r
  simp only [Ew,List.flatMap_cons,List.length_append,List.length_cons] at h2 ⊢; omega
theorem Jrl {l:Je} (hl:OkL l) (s:Jd) (x:Jw) (h:l.Elements[s.El.toNat]?=some x):x.Kind=1∨x.Kind=2∨x.Kind=3:=by
 have:=(hl.elem.1 x (List.mem_of_getElem? h)).1; omega
theorem Jll {l:Je} (hl:OkL l) {r:Jm} (h:Jds r):Hp l r=some (Ew l (r.Path++r.Over)):=by
 have hp:=h.path
 have ho:=h.over
 have h1:Is (Km (Dh l r) (0,([]:List Jj))) fun o=>o=.inl (Ew l r.Path):=by
  refine Is.loop (mk:=fun (i:Nat) (o:List Jj)=>((i:Int),o)) r.Path.length (fun i o=>o=Ew l (r.Path.take i)) [] (by simp [Ew]) ?_ ?_
  ·rintro i o hi rfl
   unfold Dh
   obtain ⟨s,hs⟩:∃ y,r.Path[i]?=some y:=⟨_,List.getElem?_eq_getElem hi⟩
   have e0:decide ((i:Int)<((r.Path.length:Nat):Int))=true:=decide_eq_true (by omega)
   have hlen:=Rb l (r.Path.take i)
   have hb:=Jmu l s
   rw [List.length_take] at hlen
   simp only [Wk hs,e0,cond_true,Option.bind_some,Jba l s (Jrl hl s)]
   refine Is.bind (Is.app (by simp only [Kn,Enc.b]; omega)) fun M hM=>?_
   subst hM
   refine Is.val ⟨_,by rw [Gx (by omega)], ?_⟩
   rw [Vs hs,Jay]; simp [Ew]
  ·rintro o rfl
   unfold Dh
   have e0:decide (((r.Path.length:Nat):Int)<((r.Path.length:Nat):Int))=false:=decide_eq_false (by omega)
   simp only [e0,cond_false]
   exact Is.val (by rw [List.take_length])
 have h2:Is (Km (Dp l r) (Ew l r.Path,0)) fun o=>o=.inl (Ew l r.Path++Ew l r.Over):=by
  have hpl:=Rb l r.Path
  refine Is.loop (mk:=fun (i:Nat) (o:List Jj)=>(o,(i:Int))) r.Over.length (fun i o=>o=Ew l r.Path++Ew l (r.Over.take i)) (Ew l r.Path) (by simp [Ew]) ?_ ?_
  ·rintro i o hi rfl
   unfold Dp
   obtain ⟨s,hs⟩:∃ y,r.Over[i]?=some y:=⟨_,List.getElem?_eq_getElem hi⟩
   have e0:decide ((i:Int)<((r.Over.length:Nat):Int))=true:=decide_eq_true (by omega)
   have hlen:=Rb l (r.Over.take i)
   have hb:=Jmu l s
   rw [List.length_take] at hlen
   simp only [Wk hs,e0,cond_true,Option.bind_some,Jba l s (Jrl hl s)]
   refine Is.bind (Is.app (by simp only [Kn,Enc.b,List.length_append]; omega)) fun M hM=>?_
   subst hM
   refine Is.val ⟨_,by rw [Gx (by omega)], ?_⟩
   rw [Vs hs,Jay,List.append_assoc]; simp [Ew]
  ·rintro o rfl
   unfold Dp
   have e0:decide (((r.Over.length:Nat):Int)<((r.Over.length:Nat):Int))=false:=decide_eq_false (by omega)
   simp only [e0,cond_false]
   exact Is.val (by rw [List.take_length])
 obtain ⟨o1,q1,rfl⟩:=h1
 obtain ⟨o2,q2,rfl⟩:=h2
 unfold Hp
 rw [q1]
 simp only [onInl,Vn,Option.bind_some,q2,Jay]
/-! ### All ends -/
structure FG where
 flank:List Jh
 guards:List Int
 gaps:List Jj
def Jcg (x:FG) (e:Jj) (s:Jh×Int×Bool):FG :=
 if s.2.2=false then ⟨x.flank,x.guards,x.gaps++[e]⟩ else
 if 0≤s.2.1 then ⟨x.flank,x.guards++[s.2.1],x.gaps⟩ else
 if s.1=z0 then x else ⟨x.flank++[s.1],x.guards,x.gaps⟩
def Jbh (N:Jh→Bool) (x:FG) (s:Jh):Bool:=N s||Jke x.flank s
def Tg (l:Je) (P:Int→Bool) (N:Jh→Bool):List Jj→FG→FG
 | [],x=>x
 | e::r,x=>Tg l P N r (Jcg x e (Je3 l P (Jbh N x) 4 e))
theorem Jgq (l:Je) (P:Int→Bool) (N:Jh→Bool):∀ (A B:List Jj) (x:FG),Tg l P N (A++B) x=Tg l P N B (Tg l P N A x)
 | [],_,_=>rfl
 | e::A,B,x=>Jgq l P N A B _
structure Jwa (x:FG) (n:Nat):Prop where
 flank:x.flank.length≤n
 guards:x.guards.length≤n
 gaps:x.gaps.length≤n
theorem Jv5 {x:FG} {n:Nat} (h:Jwa x n) (e:Jj) (s:Jh×Int×Bool):Jwa (Jcg x e s) (n+1):=by
 have h1:=h.flank
 have h2:=h.guards
 have h3:=h.gaps
 unfold Jcg
 split
 ·exact ⟨by simp only; omega,by simp only; omega,by simp; omega⟩
 ·split
  ·exact ⟨by simp only; omega,by simp; omega,by simp only; omega⟩
  ·split
   ·exact ⟨by omega,by omega,by omega⟩
   ·exact ⟨by simp; omega,by simp only; omega,by simp only; omega⟩
theorem Jhu (l:Je) (P:Int→Bool) (N:Jh→Bool):∀ (A:List Jj) (x:FG) (n:Nat),Jwa x n→Jwa (Tg l P N A x) (n+A.length)
 | [],x,n,h=>h
 | e::A,x,n,h=>by
  have:=Jhu l P N A _ (n+1) (Jv5 h e (Je3 l P (Jbh N x) 4 e))
  rw [List.length_cons,show n+(A.length+1)=n+1+A.length by omega]
  exact this
def Jhl (r:Jm) (s:Jh):Bool:=Jke r.Points s||Jke r.OverPoints s
def fg0 : FG:=⟨[],[],[]⟩
def Jlr (l:Je) (r:Jm):FG:=Tg l (Nb r) (Jhl r) (Ew l (r.Path++r.Over)) fg0
def Jhe (r:Jm) (x:FG):Jm:=⟨r.Name,r.Entry,r.Exit,r.Path,r.Points,r.Sections,r.Approach,r.Length,r.Over,r.OverPoints,r.OverSections,x.flank,x.guards,x.gaps⟩
theorem Jeh {r:Jm} (h:Jds r) {x:FG} (hx:Jwa x 1000):Jds (Jhe r x):=⟨h.path,h.over,h.pts,h.ops,hx.flank,h.secs,h.osecs,hx.guards,hx.gaps⟩
theorem Jul (r:Jm) (x:FG):Jiu (Jhe r x)=Jbh (Jhl r) x:=rfl
section
variable {l:Je} (hs:Sm l) (hl:OkL l) {r:Jm} (hr:Jds r)
include hs hl hr
end
end PM
/-
 PLAIN: slices.Compact at numbers.
-/
namespace PM
open Go Go.RowKit
/-! ### Both lists of settings -/
end PM
/-
 PLAIN, FLANK C: what Find returns; the statements FlankSearches, FlankLists, FlankAgrees and FlankStops.
-/
namespace PM
open Go Go.RowKit
/-! ### Sorted lists -/
def sF (L:List Jh):List Jh:=ddS (L.mergeSort fun x y => !ltS y x)
def sG (L:List Int):List Int:=ddS (L.mergeSort fun x y=>decide (x≤y))
theorem Kdd (L:List Jh) (x:Jh):x∈sF L↔x∈L:=by rw [sF,Jpb,(List.mergeSort_perm _ _).mem_iff]
theorem Kda (L:List Int) (x:Int):x∈sG L↔x∈L:=by rw [sG,Jpb,(List.mergeSort_perm _ _).mem_iff]
theorem Kc9 (L:List Jh):(sF L).length≤L.length:=Nat.le_trans (Jqb _) (by rw [(List.mergeSort_perm _ _).length_eq]; exact Nat.le_refl _)
theorem Kc8 (L:List Int):(sG L).length≤L.length:=Nat.le_trans (Jqb _) (by rw [(List.mergeSort_perm _ _).length_eq]; exact Nat.le_refl _)
theorem Kc5 (L:List Jh):Asc (sF L):=by
 refine Je4 Jp0 Jps _ ?_
 have:=List.pairwise_mergeSort (le:=fun x y => !ltS y x) (fun a b c h1 h2=>?_) (fun a b=>?_) L
 ·exact this.imp fun h=>by simpa using h
 ·simp only [Rh,Bool.not_eq_true',decide_eq_false_iff_not] at *; omega
 ·cases h:ltS b a with
  | false=>rfl
  | true =>
   have:ltS a b=false:=by rw [Rh,decide_eq_true_iff] at h; rw [Rh,decide_eq_false_iff_not]; omega
   simp [this]
theorem Kdz (L:List Int):(sG L).Pairwise fun x y=>x<y:=by
 have h1:(sG L).Pairwise fun x y=>decide (x<y)=true:=by
  refine Je4 (lt:=fun x y=>decide (x<y)) (fun x y z h1 h2=>by simp at h1 h2 ⊢; omega) (fun x y h=>by simp at h ⊢; omega) _ ?_
  have:=List.pairwise_mergeSort (le:=fun (x y:Int)=>decide (x≤y)) (fun a b c h1 h2=>by simp at h1 h2 ⊢; omega) (fun a b=>by simp; omega) L
  exact this.imp fun h=>by simp at h ⊢; omega
 exact h1.imp fun h=>by simpa using h
/-! ### Find -/
def Kck (l:Je) (r:Jm):Jm:=Jhe r ⟨sF (Jlr l r).flank,sG (Jlr l r).guards,(Jlr l r).gaps⟩
theorem Jzf (l:Je) {r:Jm} (hp:r.Path.length≤40) (ho:r.Over.length≤40):Jwa (Jlr l r) 400:=by
 have h:=Jhu l (Nb r) (Jhl r) (Ew l (r.Path++r.Over)) fg0 0 ⟨by simp [fg0],by simp [fg0],by simp [fg0]⟩
 have h2:=Rb l (r.Path++r.Over)
 rw [List.length_append] at h2
 exact ⟨by have:=h.flank; unfold Jlr; omega,by have:=h.guards; unfold Jlr; omega,by have:=h.gaps; unfold Jlr; omega⟩
theorem Jw8 (l:Je) {r:Jm} (hr:Jds r) (hp:r.Path.length≤40) (ho:r.Over.length≤40):Jds (Kck l r):=by
 have hL:=Jzf l hp ho
 refine Jeh hr ⟨?_, ?_,by have:=hL.gaps; simp only; omega⟩
 ·have:=Kc9 (Jlr l r).flank; have:=hL.flank; simp only; omega
 ·have:=Kc8 (Jlr l r).guards; have:=hL.guards; simp only; omega
/-! ### The examples -/
/-! ### What a search finds -/
structure SrOk (l:Je) (P:Int→Bool) (N:Jh→Bool) (t:Jh×Int×Bool):Prop where
 guard:0≤t.2.1→t.2.1<(l.Signals.length:Nat)
 set:t.1≠z0→Uv l t.1.El=true∧Jcb l t.1.El=2∧(t.1.Pos=1∨t.1.Pos=2)∧P t.1.El=false∧N ⟨t.1.El,3 - t.1.Pos⟩=false
theorem Ka1 (L:List Ki) (e:Jj):Sh L e<(L.length:Nat):=by
 unfold Sh
 split
 ·next i h =>
  have:=(List.findIdx?_eq_some_iff_getElem.1 h).1
  omega
 ·omega
theorem Jqk {l:Je} (hl:OkL l) (P:Int→Bool) (N:Jh→Bool):∀ (n:Nat) (e:Jj),SrOk l P N (Je3 l P N n e)
 | 0,e=>⟨fun h=>by simp [Je3] at h,fun h=>absurd rfl h⟩
 | n+1,e=>by
  unfold Je3
  split
  ·exact ⟨fun h=>by simp at h,fun h=>absurd rfl h⟩
  ·next hj =>
   obtain ⟨x,hx⟩:=Jlm hl (e:=e) (by simpa using hj)
   split
   ·exact ⟨fun _=>Ka1 _ _,fun h=>absurd rfl h⟩
   ·split
    ·exact ⟨fun h=>by simp at h,fun h=>absurd rfl h⟩
    ·next hp =>
     split
     ·next hk =>
      split
      ·exact ⟨fun h=>by simp at h,fun h=>absurd rfl h⟩
      ·next h0 =>
       split
       ·exact ⟨fun h=>by simp at h,fun h=>absurd rfl h⟩
       ·next hN =>
        refine ⟨fun h=>by simp at h,fun _=>⟨hx.has,hk, ?_,by simpa using hp, ?_⟩⟩
        ·have:=hx.kinds
         rw [hx.kind] at hk
         simp only; omega
        ·simp only
         rw [show 3 - (3 - (Qm l e).1.Side)=(Qm l e).1.Side by omega]
         simpa using hN
     ·exact Jqk hl P N n _
structure Kb1 (l:Je) (P:Int→Bool) (x:FG):Prop where
 flank:∀ y∈x.flank,Uv l y.El=true∧Jcb l y.El=2∧(y.Pos=1∨y.Pos=2)∧P y.El=false
 one:∀ y∈x.flank,∀ z∈x.flank,y.El=z.El→y=z
 guards:∀ g∈x.guards,0≤g∧g<(l.Signals.length:Nat)
theorem Jq0 {l:Je} {P:Int→Bool} {N:Jh→Bool} {x:FG} (h:Kb1 l P x) (e:Jj) {t:Jh×Int×Bool} (ht:SrOk l P (Jbh N x) t):Kb1 l P (Jcg x e t):=by
 unfold Jcg
 split
 ·exact ⟨h.flank,h.one,h.guards⟩
 ·split
  ·next h2 =>
   refine ⟨h.flank,h.one,fun g hg=>?_⟩
   rcases List.mem_append.1 hg with hg|hg
   ·exact h.guards g hg
   ·simp at hg; subst hg; exact ⟨h2,ht.guard h2⟩
  ·split
   ·exact h
   ·next h3 =>
    obtain ⟨g1,g2,g3,g4,g5⟩:=ht.set h3
    have key:∀ y∈x.flank,y.El=t.1.El→y=t.1:=by
     intro y hy ey
     have h1:=(h.flank y hy).2.2.1
     have hn:y≠⟨t.1.El,3 - t.1.Pos⟩:=by
      rintro rfl
      have:Jke x.flank ⟨t.1.El,3 - t.1.Pos⟩=true:=decide_eq_true hy
      simp only [Jbh,this,Bool.or_true] at g5
      cases g5
     obtain ⟨a,b⟩:=y
     generalize t.1=u at ey g3 hn ⊢
     obtain ⟨c,d⟩:=u
     simp only at ey h1 g3 hn
     subst ey
     have:b=d:=by
      rcases h1 with rfl|rfl <;> rcases g3 with rfl|rfl <;> first|rfl|exact absurd rfl hn
     rw [this]
    refine ⟨fun y hy=>?_,fun y hy z hz ez=>?_,h.guards⟩
    ·rcases List.mem_append.1 hy with hy|hy
     ·exact h.flank y hy
     ·simp at hy; subst hy; exact ⟨g1,g2,g3,g4⟩
    ·rcases List.mem_append.1 hy with hy|hy <;> rcases List.mem_append.1 hz with hz|hz
     ·exact h.one y hy z hz ez
     ·simp at hz; subst hz; exact key y hy ez
     ·simp at hy; subst hy; exact (key z hz ez.symm).symm
     ·simp at hy hz; rw [hy,hz]
theorem Jre {l:Je} (hl:OkL l) (P:Int→Bool) (N:Jh→Bool):∀ (A:List Jj) (x:FG),Kb1 l P x→Kb1 l P (Tg l P N A x)
 | [],_,h=>h
 | e::A,x,h=>Jre hl P N A _ (Jq0 h e (Jqk hl P (Jbh N x) 4 e))
/-! ### The statements -/
end PM
/-
 PLAIN: ascending numbers; the sets of the reference.
-/
namespace PM
open Go Go.RowKit
/-! ### Sorted lists -/
def Xc (l:List Int):Prop:=l.Pairwise (·<·)
theorem Xc.one {a b:List Int} (ha:Xc a) (hb:Xc b) (h:∀ x,x∈a↔x∈b):a=b :=
 Nu (lt:=fun x y=>decide (x<y)) (fun x=>by simp) (fun x y z h1 h2=>by simp at h1 h2 ⊢; omega) a b (ha.imp fun h=>decide_eq_true h) (hb.imp fun h=>decide_eq_true h) h
theorem Xc.at {L:List Int} (h:Xc L) {i j:Nat} {x y:Int} (hx:L[i]?=some x) (hy:L[j]?=some y) (hij:i<j):x<y:=by
 have h1:=Uc hx
 have h2:=Uc hy
 rw [List.getElem?_eq_getElem h1] at hx; cases hx
 rw [List.getElem?_eq_getElem h2] at hy; cases hy
 exact (List.pairwise_iff_getElem.1 h) i j h1 h2 hij
theorem Jp2 (L:List Int) (x:Int) (h:L.length≤1048576):Og L x=some (decide (x∈L)):=by
 unfold Og
 rw [Pz (fun y=>decide (y=x)) (fun _=>.inr true) (.inl ()) L (by omega)]
 ·cases hf:L.find? (fun y=>decide (y=x)) with
  | none =>
   rw [List.find?_eq_none] at hf
   have:¬ x∈L:=fun hx=>hf x hx (by simp)
   simp [onInl,Vn,this]
  | some y =>
   have h1:=List.mem_of_find?_eq_some hf
   have h2:=List.find?_some hf
   simp only [decide_eq_true_eq] at h2
   subst h2
   simp [onInl,Vn,h1]
 ·intro i y hy
  have hi:=Uc hy
  simp only [Np,Wk hy,show decide ((i:Int)<((L.length:Nat):Int))=true by simp; omega,cond_true,Option.bind_some]
 ·simp [Np]
structure Kdw (L:List Int) (x:Int) (i:Nat) (d:Bool) (o:List Int):Prop where
 asc:Xc o
 mem:∀ y,y∈o↔y∈L.take i∨(d=true∧y=x)
 len:o.length≤i+1
 no:d=false→∀ y∈L.take i,y<x
 yes:d=true→∀ (j:Nat) y,i≤j→L[j]?=some y→x<y
theorem Kbw {L:List Int} (h:Xc L) {i:Nat} {y z:Int} (hy:L[i]?=some y) (hz:z∈L.take i):z<y:=by
 obtain ⟨j,hj⟩:=List.mem_iff_getElem?.1 hz
 have h1:=Uc hj
 rw [List.length_take] at h1
 rw [List.getElem?_take] at hj
 split at hj
 ·exact h.at hj hy (by omega)
 ·cases hj
theorem Jbb (L:List Int) (x:Int) (hL:Xc L) (h:L.length≤1000000):Is (Ch L x) fun M=>Xc M∧(∀ y,y∈M↔y∈L∨y=x)∧M.length≤L.length+1:=by
 unfold Ch
 rw [Jp2 L x (by omega),Option.bind_some]
 refine Is.ite (p:=x∈L) Vb (fun hx=>Is.val ⟨hL,fun y=>⟨.inl, ?_⟩,by omega⟩) (fun hx=>?_)
 ·rintro (h|rfl)
  ·exact h
  ·exact hx
 refine Is.onInl (θ:=fun o=>∃ r,o=.inl r∧Kdw L x L.length r.2 r.1) ?_ ?_ (fun b hb=>by obtain ⟨_,hb,_⟩:=hb; cases hb)
 ·refine Is.loop (mk:=fun (i:Nat) (s:Bool×List Int)=>(s.1,(i:Int),s.2)) L.length (fun i s=>Kdw L x i s.1 s.2) (false,[]) ⟨List.Pairwise.nil,fun y=>by simp,by simp,fun _ y hy=>by simp at hy,fun h=>by cases h⟩ ?_ ?_
  ·rintro i ⟨d,o⟩ hi hI
   unfold Fw
   simp only at hI
   obtain ⟨y,hy⟩:∃ y,L[i]?=some y:=⟨_,List.getElem?_eq_getElem hi⟩
   have hlen:=hI.len
   have hmem:y∈L:=List.mem_of_getElem? hy
   have e0:decide ((i:Int)<((L.length:Nat):Int))=true:=decide_eq_true (by omega)
   simp only [Wk hy,e0,cond_true,Option.bind_some,Lh,Bool.cond_false_right]
   refine Is.onInl (θ:=fun v=>∃ r,v=.inl r∧r.1.length≤i+2 - 1+1 - 1+1∧Kdw L x (i+1) r.2 (r.1++[y])) ?_ ?_ (fun b hb=>by obtain ⟨_,hb,_⟩:=hb; cases hb)
   ·refine Is.cond (fun hc=>?_) (fun hc=>?_)
    ·simp only [Bool.and_eq_true,Bool.not_eq_true',decide_eq_true_eq] at hc
     obtain ⟨rfl,hc⟩:=hc
     have hol:o.length≤i:=by
      have e:o=L.take i:=hI.asc.one (hL.sublist (List.take_sublist i L)) (fun z=>by rw [hI.mem]; simp)
      rw [e,List.length_take]; omega
     refine Is.bind (Is.app (by simp only [List.length_cons,List.length_nil,Kn,Enc.b]; omega)) fun M hM=>?_
     subst hM
     refine Is.val ⟨_,rfl,by simp; omega, ?_⟩
     refine ⟨?_,fun z=>?_,by simp; omega,fun h=>(by cases h),fun _ j z hj hz=>?_⟩
     ·unfold Xc
      rw [List.append_assoc,List.pairwise_append]
      refine ⟨hI.asc,by simp [hc],fun a ha b hb=>?_⟩
      have h1:a∈L.take i:=by
       have:=(hI.mem a).1 ha
       rcases this with h|⟨h,_⟩
       ·exact h
       ·cases h
      have h2:=hI.no rfl a h1
      simp at hb
      rcases hb with rfl|rfl <;> omega
     ·rw [Vs hy]
      simp only [List.mem_append,List.mem_singleton,hI.mem,Bool.false_eq_true,false_and,or_false,true_and]
      exact or_right_comm
     ·by_cases e:j=i
      ·subst e; rw [hy] at hz; cases hz; exact hc
      ·exact Int.lt_trans hc (hL.at hy hz (by omega))
    ·have hol:o.length≤i+1:=hI.len
     refine Is.val ⟨_,rfl,by simp; omega, ?_⟩
     have hd:d=false→y<x:=by
      rintro rfl
      simp only [Bool.not_false,Bool.true_and,decide_eq_false_iff_not] at hc
      have:y≠x:=fun e=>hx (e▸hmem)
      omega
     refine ⟨?_,fun z=>?_, ?_,fun h z hz=>?_,fun h j z hj hz=>hI.yes h j z (by omega) hz⟩
     ·unfold Xc
      rw [List.pairwise_append]
      refine ⟨hI.asc,by simp,fun a ha b hb=>?_⟩
      simp at hb; subst hb
      rcases (hI.mem a).1 ha with h|⟨h,rfl⟩
      ·exact Kbw hL hy h
      ·exact hI.yes h i _ (Nat.le_refl _) hy
     ·rw [Vs hy]
      simp only [List.mem_append,List.mem_singleton,hI.mem]
      exact or_right_comm
     ·simp; omega
     ·rw [Vs hy] at hz
      rcases List.mem_append.1 hz with hz|hz
      ·exact hI.no h z hz
      ·simp at hz; subst hz; exact hd h
   ·rintro ⟨o',d'⟩ ⟨r,hr,hl,hI'⟩
    cases hr
    refine Is.bind (Is.app (by simp only [List.length_cons,List.length_nil,Kn,Enc.b]; simp only at hl; omega)) fun M hM=>?_
    subst hM
    exact Is.val ⟨(d',o'++[y]),by rw [Gx (by omega)],hI'⟩
  ·rintro ⟨d,o⟩ hI
   unfold Fw
   have e0:decide (((L.length:Nat):Int)<((L.length:Nat):Int))=false:=decide_eq_false (by omega)
   simp only [e0,cond_false]
   exact Is.val ⟨_,rfl,hI⟩
 ·rintro ⟨o,d⟩ ⟨r,hr,hI⟩
  cases hr
  simp only at hI
  have hlen:=hI.len
  refine Is.onInl (θ:=fun v=>∃ M,v=.inl M∧Xc M∧(∀ y,y∈M↔y∈L∨y=x)∧M.length≤L.length+1) ?_ (fun v hv=>?_) (fun b hb=>by obtain ⟨_,hb,_⟩:=hb; cases hb)
  ·cases d with
   | true =>
    simp only [Bool.not_true,cond_false]
    exact Is.val ⟨_,rfl,hI.asc,fun y=>by rw [hI.mem]; simp,hlen⟩
   | false =>
    have hol:o=L:=hI.asc.one hL (fun z=>by rw [hI.mem]; simp)
    subst hol
    simp only [Bool.not_false,cond_true]
    refine Is.bind (Is.app (by simp only [List.length_cons,List.length_nil,Kn,Enc.b]; omega)) fun M hM=>?_
    subst hM
    refine Is.val ⟨_,rfl, ?_,fun y=>by simp,by simp⟩
    unfold Xc
    rw [List.pairwise_append]
    refine ⟨hL,by simp,fun a ha b hb=>?_⟩
    simp at hb; subst hb
    exact hI.no rfl a (by rw [List.take_length]; exact ha)
  ·obtain ⟨M,rfl|_,h1,h2,h3⟩:=hv
   exact Is.val ⟨h1,h2,h3⟩
theorem Jnc (L:List Int) (h:L.length≤1000000):Is (Ly L) fun M=>Xc M∧∀ y,y∈M↔y∈L:=by
 unfold Ly
 refine Is.onInl (θ:=fun o=>∃ M,o=.inl M∧Xc M∧(∀ y,y∈M↔y∈L)) ?_ (fun v hv=>?_) (fun b hb=>by obtain ⟨_,hb,_⟩:=hb; cases hb)
 ·first
   | refine Is.loop (mk:=fun (i:Nat) (o:List Int)=>(o,(i:Int))) L.length (fun i o=>Xc o∧(∀ y,y∈o↔y∈L.take i)∧o.length≤i) [] ⟨List.Pairwise.nil,fun y=>by simp,by simp⟩ ?_ ?_
   | refine Is.loop (mk:=fun (i:Nat) (o:List Int)=>((i:Int),o)) L.length (fun i o=>Xc o∧(∀ y,y∈o↔y∈L.take i)∧o.length≤i) [] ⟨List.Pairwise.nil,fun y=>by simp,by simp⟩ ?_ ?_
  ·rintro i o hi ⟨h1,h2,h3⟩
   unfold Mj
   obtain ⟨y,hy⟩:∃ y,L[i]?=some y:=⟨_,List.getElem?_eq_getElem hi⟩
   have e0:decide ((i:Int)<((L.length:Nat):Int))=true:=decide_eq_true (by omega)
   simp only [Wk hy,e0,cond_true,Option.bind_some]
   refine Is.bind (Jbb o y h1 (by omega)) fun M hM=>?_
   refine Is.val ⟨_,by rw [Gx (by omega)],hM.1,fun z=>?_,by have:=hM.2.2; omega⟩
   rw [hM.2.1,h2,Vs hy]; simp
  ·rintro o ⟨h1,h2,h3⟩
   unfold Mj
   have e0:decide (((L.length:Nat):Int)<((L.length:Nat):Int))=false:=decide_eq_false (by omega)
   simp only [e0,cond_false]
   exact Is.val ⟨_,rfl,h1,fun y=>by rw [h2,List.take_length]⟩
 ·obtain ⟨M,rfl|_,h1,h2⟩:=hv
  exact Is.val ⟨h1,h2⟩
end PM
/-
 PLAIN, FLANK E: the reference's Find; the statement FlankFinds.
-/
namespace PM
open Go Go.RowKit
/-! ### Settings, ascending by element -/
def Jdl (l:List Jh):Prop:=l.Pairwise fun x y=>x.El<y.El
theorem Jdl.one {a b:List Jh} (ha:Jdl a) (hb:Jdl b) (h:∀ x,x∈a↔x∈b):a=b :=
 Nu (lt:=fun x y=>decide (x.El<y.El)) (fun x=>by simp) (fun x y z h1 h2=>by simp at h1 h2 ⊢; omega) a b (ha.imp fun h=>decide_eq_true h) (hb.imp fun h=>decide_eq_true h) h
theorem Jdl.at {L:List Jh} (h:Jdl L) {i j:Nat} {x y:Jh} (hx:L[i]?=some x) (hy:L[j]?=some y) (hij:i<j):x.El<y.El:=by
 have h1:=Uc hx
 have h2:=Uc hy
 rw [List.getElem?_eq_getElem h1] at hx; cases hx
 rw [List.getElem?_eq_getElem h2] at hy; cases hy
 exact (List.pairwise_iff_getElem.1 h) i j h1 h2 hij
theorem Jdl.asc {L:List Jh} (h:Jdl L):Asc L:=h.imp fun {x y} hxy=>by rw [Rh,decide_eq_true_iff]; exact .inl hxy
structure Kdu (L:List Jh) (x:Jh) (i:Nat) (d:Bool) (o:List Jh):Prop where
 asc:Jdl o
 mem:∀ y,y∈o↔y∈L.take i∨(d=true∧y=x)
 len:o.length≤i+1
 no:d=false→∀ y∈L.take i,y.El<x.El
 yes:d=true→∀ (j:Nat) y,i≤j→L[j]?=some y→x.El<y.El
theorem Jyv {L:List Jh} (h:Jdl L) {i:Nat} {y z:Jh} (hy:L[i]?=some y) (hz:z∈L.take i):z.El<y.El:=by
 obtain ⟨j,hj⟩:=List.mem_iff_getElem?.1 hz
 have h1:=Uc hj
 rw [List.length_take] at h1
 rw [List.getElem?_take] at hj
 split at hj
 ·exact h.at hj hy (by omega)
 ·cases hj
theorem Jo7 (L:List Jh) (x:Jh) (hL:Jdl L) (hne:x∈L∨∀ y∈L,y.El≠x.El) (h:L.length≤1000000):Is (Oj L x) fun M=>Jdl M∧(∀ y,y∈M↔y∈L∨y=x)∧M.length≤L.length+1:=by
 unfold Oj
 rw [Pu L x (by omega),Option.bind_some]
 refine Is.ite (p:=x∈L) (show Jke L x=true↔x∈L from Vb) (fun hx=>Is.val ⟨hL,fun y=>⟨.inl, ?_⟩,by omega⟩) (fun hx=>?_)
 ·rintro (h|rfl)
  ·exact h
  ·exact hx
 have hne:∀ y∈L,y.El≠x.El:=hne.resolve_left hx
 refine Is.onInl (θ:=fun o=>∃ r,o=.inl r∧Kdu L x L.length r.2 r.1) ?_ ?_ (fun b hb=>by obtain ⟨_,hb,_⟩:=hb; cases hb)
 ·refine Is.loop (mk:=fun (i:Nat) (s:Bool×List Jh)=>(s.1,(i:Int),s.2)) L.length (fun i s=>Kdu L x i s.1 s.2) (false,[]) ⟨List.Pairwise.nil,fun y=>by simp,by simp,fun _ y hy=>by simp at hy,fun h=>by cases h⟩ ?_ ?_
  ·rintro i ⟨d,o⟩ hi hI
   unfold Ns
   simp only at hI
   obtain ⟨y,hy⟩:∃ y,L[i]?=some y:=⟨_,List.getElem?_eq_getElem hi⟩
   have hlen:=hI.len
   have hmem:y∈L:=List.mem_of_getElem? hy
   have e0:decide ((i:Int)<((L.length:Nat):Int))=true:=decide_eq_true (by omega)
   simp only [Wk hy,e0,cond_true,Option.bind_some,Lh,Bool.cond_false_right]
   refine Is.onInl (θ:=fun v=>∃ r,v=.inl r∧r.1.length≤i+2 - 1+1 - 1+1∧Kdu L x (i+1) r.2 (r.1++[y])) ?_ ?_ (fun b hb=>by obtain ⟨_,hb,_⟩:=hb; cases hb)
   ·refine Is.cond (fun hc=>?_) (fun hc=>?_)
    ·simp only [Bool.and_eq_true,Bool.not_eq_true',decide_eq_true_eq] at hc
     obtain ⟨rfl,hc⟩:=hc
     have hol:o.length≤i:=by
      have e:o=L.take i:=hI.asc.one (hL.sublist (List.take_sublist i L)) (fun z=>by rw [hI.mem]; simp)
      rw [e,List.length_take]; omega
     refine Is.bind (Is.app (by simp only [List.length_cons,List.length_nil,Kn,Enc.b]; omega)) fun M hM=>?_
     subst hM
     refine Is.val ⟨_,rfl,by simp; omega, ?_⟩
     refine ⟨?_,fun z=>?_,by simp; omega,fun h=>(by cases h),fun _ j z hj hz=>?_⟩
     ·unfold Jdl
      rw [List.append_assoc,List.pairwise_append]
      refine ⟨hI.asc,by simp [hc],fun a ha b hb=>?_⟩
      have h1:a∈L.take i:=by
       have:=(hI.mem a).1 ha
       rcases this with h|⟨h,_⟩
       ·exact h
       ·cases h
      have h2:=hI.no rfl a h1
      simp at hb
      rcases hb with rfl|rfl <;> omega
     ·rw [Vs hy]
      simp only [List.mem_append,List.mem_singleton,hI.mem,Bool.false_eq_true,false_and,or_false,true_and]
      exact or_right_comm
     ·by_cases e:j=i
      ·subst e; rw [hy] at hz; cases hz; exact hc
      ·exact Int.lt_trans hc (hL.at hy hz (by omega))
    ·have hol:o.length≤i+1:=hI.len
     refine Is.val ⟨_,rfl,by simp; omega, ?_⟩
     have hd:d=false→y.El<x.El:=by
      rintro rfl
      simp only [Bool.not_false,Bool.true_and,decide_eq_false_iff_not] at hc
      have:=hne y hmem
      omega
     refine ⟨?_,fun z=>?_, ?_,fun h z hz=>?_,fun h j z hj hz=>hI.yes h j z (by omega) hz⟩
     ·unfold Jdl
      rw [List.pairwise_append]
      refine ⟨hI.asc,by simp,fun a ha b hb=>?_⟩
      simp at hb; subst hb
      rcases (hI.mem a).1 ha with h|⟨h,rfl⟩
      ·exact Jyv hL hy h
      ·exact hI.yes h i _ (Nat.le_refl _) hy
     ·rw [Vs hy]
      simp only [List.mem_append,List.mem_singleton,hI.mem]
      exact or_right_comm
     ·simp; omega
     ·rw [Vs hy] at hz
      rcases List.mem_append.1 hz with hz|hz
      ·exact hI.no h z hz
      ·simp at hz; subst hz; exact hd h
   ·rintro ⟨o',d'⟩ ⟨r,hr,hl,hI'⟩
    cases hr
    refine Is.bind (Is.app (by simp only [List.length_cons,List.length_nil,Kn,Enc.b]; simp only at hl; omega)) fun M hM=>?_
    subst hM
    exact Is.val ⟨(d',o'++[y]),by rw [Gx (by omega)],hI'⟩
  ·rintro ⟨d,o⟩ hI
   unfold Ns
   have e0:decide (((L.length:Nat):Int)<((L.length:Nat):Int))=false:=decide_eq_false (by omega)
   simp only [e0,cond_false]
   exact Is.val ⟨_,rfl,hI⟩
 ·rintro ⟨o,d⟩ ⟨r,hr,hI⟩
  cases hr
  simp only at hI
  have hlen:=hI.len
  refine Is.onInl (θ:=fun v=>∃ M,v=.inl M∧Jdl M∧(∀ y,y∈M↔y∈L∨y=x)∧M.length≤L.length+1) ?_ (fun v hv=>?_) (fun b hb=>by obtain ⟨_,hb,_⟩:=hb; cases hb)
  ·cases d with
   | true =>
    simp only [Bool.not_true,cond_false]
    exact Is.val ⟨_,rfl,hI.asc,fun y=>by rw [hI.mem]; simp,hlen⟩
   | false =>
    have hol:o=L:=hI.asc.one hL (fun z=>by rw [hI.mem]; simp)
    subst hol
    simp only [Bool.not_false,cond_true]
    refine Is.bind (Is.app (by simp only [List.length_cons,List.length_nil,Kn,Enc.b]; omega)) fun M hM=>?_
    subst hM
    refine Is.val ⟨_,rfl, ?_,fun y=>by simp,by simp⟩
    unfold Jdl
    rw [List.pairwise_append]
    refine ⟨hL,by simp,fun a ha b hb=>?_⟩
    simp at hb; subst hb
    exact hI.no rfl a (by rw [List.take_length]; exact ha)
  ·obtain ⟨M,rfl|_,h1,h2,h3⟩:=hv
   exact Is.val ⟨h1,h2,h3⟩
theorem Jl7 (L:List Int) (g:Int) (hL:Xc L) (h:L.length≤900000):Is (Hv L [g]) fun M=>Xc M∧(∀ y,y∈M↔y∈L∨y=g):=by
 unfold Hv
 refine Is.bind (Jnc L (by omega)) fun M hM=>?_
 have hML:M=L:=hM.1.one hL hM.2
 subst hML
 obtain ⟨K,q1,q2,q3,-⟩:=Jbb M g hL (by omega)
 have s0:Ba [g] (M,0)=some (.inl (K,1)):=by
  unfold Ba
  dsimp only
  rw [show decide ((0:Int)<((([g]:List Int).length:Nat):Int))=true from rfl]
  simp only [cond_true,show ixO [g] 0=some g from Wk (i:=0) rfl,Option.bind_some,q1,show w64 (0+1)=1 by decide]
 have s1:Ba [g] (K,1)=some (.inr (.inl K)):=by
  unfold Ba
  dsimp only
  rw [show decide ((1:Int)<((([g]:List Int).length:Nat):Int))=false from rfl]; rfl
 rw [Vt s0,Qu s1]
 exact Is.val ⟨q2,q3⟩
theorem Jn5 (l:Je) (P:Int→Bool) (N:Jh→Bool):∀ (n:Nat) (e:Jj),((Je3 l P N n e).2.2=false→Je3 l P N n e=(z0,-1,false))∧(0≤(Je3 l P N n e).2.1→(Je3 l P N n e).1=z0)
 | 0,e=>⟨fun _=>rfl,fun _=>rfl⟩
 | n+1,e=>by
  unfold Je3
  split
  ·exact ⟨(fun h=>by cases h),fun _=>rfl⟩
  ·split
   ·exact ⟨(fun h=>by cases h),fun _=>rfl⟩
   ·split
    ·exact ⟨(fun h=>by cases h),fun _=>rfl⟩
    ·split
     ·split
      ·exact ⟨fun _=>rfl,fun _=>rfl⟩
      ·split
       ·exact ⟨fun _=>rfl,fun _=>rfl⟩
       ·exact ⟨(fun h=>by cases h),(fun h=>by simp at h)⟩
     ·exact Jn5 l P N n _
/-- What the reference has found, and what the program has. -/
structure Kcx (y:FG) (n:Nat) (F:List Jh) (G:List Int) (X:List Jj):Prop where
 asc:Jdl F
 mem:∀ z,z∈F↔z∈y.flank
 ascg:Xc G
 memg:∀ z,z∈G↔z∈y.guards
 gaps:X=y.gaps
 lenF:F.length≤n
section
variable {l:Je} (hs:Sm l) (hl:OkL l) {r:Jm} (hr:Jds r)
include hs hl hr
theorem Jym (E:List Jj) (hE:E.length≤900) :
  Is (Km (Fe l r E) (0,([]:List Jh),([]:List Int),([]:List Jj))) fun o=>∃ F G X,o=.inl (F,G,X)∧Kcx (Tg l (Nb r) (Jhl r) E fg0) E.length F G X:=by
 refine Is.loop (mk:=fun (i:Nat) (m:List Jh×List Int×List Jj)=>((i:Int),m.1,m.2.1,m.2.2)) E.length (fun i m=>Kcx (Tg l (Nb r) (Jhl r) (E.take i) fg0) i m.1 m.2.1 m.2.2) ([],[],[]) ⟨List.Pairwise.nil,fun z=>by simp [Tg,fg0],List.Pairwise.nil,fun z=>by simp [Tg,fg0],by simp [Tg,fg0],by simp⟩ ?_ ?_
 ·rintro i ⟨F,G,X⟩ hi hI
  obtain ⟨e,he⟩:∃ e,E[i]?=some e:=⟨_,List.getElem?_eq_getElem hi⟩
  have e0:decide ((i:Int)<((E.length:Nat):Int))=true:=decide_eq_true (by omega)
  have hy:=Jhu l (Nb r) (Jhl r) (E.take i) fg0 0 ⟨by simp [fg0],by simp [fg0],by simp [fg0]⟩
  have hok:=Jre hl (Nb r) (Jhl r) (E.take i) fg0 ⟨by simp [fg0],by simp [fg0],by simp [fg0]⟩
  rw [List.length_take] at hy
  rw [Vs he,Jgq]
  generalize Tg l (Nb r) (Jhl r) (E.take i) fg0=y at hy hok hI ⊢
  obtain ⟨a1,a2,a3,a4,a5,a6⟩:=hI
  simp only at a1 a2 a3 a4 a5 a6
  subst a5
  have hGl:G.length≤y.guards.length:=Jp8 (a3.imp fun {x y} h=>by omega) fun x hx=>(a4 x).1 hx
  have hg1:=hy.guards
  have hx1:=hy.gaps
  have hS:=Jja hs hl (Jeh hr (x:=⟨F,G,y.gaps⟩) ⟨by simp only; omega,by simp only; omega,by simp only; omega⟩) e
  rw [Jul] at hS
  have hneed:Jbh (Jhl r) ⟨F,G,y.gaps⟩=Jbh (Jhl r) y:=by
   funext z
   simp only [Jbh,Jke]
   congr 1
   exact decide_eq_decide.2 (a2 z)
  rw [hneed] at hS
  have hpass:Nb (Jhe r ⟨F,G,y.gaps⟩)=Nb r:=rfl
  rw [hpass] at hS
  simp only [Jhe] at hS
  unfold Fe
  simp only [e0,cond_true,Wk he,Option.bind_some,hS]
  simp only [Tg]
  have hsr:=Jqk hl (Nb r) (Jbh (Jhl r) y) 4 e
  have hfa:=Jn5 l (Nb r) (Jbh (Jhl r) y) 4 e
  have hnew:=Jq0 hok e hsr
  generalize Je3 l (Nb r) (Jbh (Jhl r) y) 4 e=t at hsr hfa hnew
  refine Is.onInl (θ:=fun o=>∃ F' G' X',o=.inl (F',G',X')∧Kcx (Jcg y e t) (i+1) F' G' X') ?_ (fun v hv=>?_) (fun b hb=>by obtain ⟨_,_,_,hb,_⟩:=hb; cases hb)
  ·cases h1:t.2.2 with
   | false =>
    have ht:=hfa.1 h1
    subst ht
    simp only [Bool.not_false,cond_true]
    refine Is.onInl (θ:=fun o=>o=.inl (y.gaps++[e])) ?_ (fun v hv=>?_) (fun b hb=>by cases hb)
    ·refine Is.bind (Is.app (by simp only [List.length_cons,List.length_nil,Kn,Enc.b]; omega)) fun M hM=>?_
     subst hM; exact Is.val rfl
    cases hv
    simp only [z0,decide_true,Bool.not_true,cond_false,onInl,Vn,Option.bind_some,show decide ((0:Int) ≤ -1)=false from rfl]
    refine Is.val ⟨_,_,_,rfl, ?_⟩
    unfold Jcg
    simp only [if_true]
    exact ⟨a1,a2,a3,a4,rfl,by omega⟩
   | true =>
    simp only [Bool.not_true,cond_false,onInl,Vn,Option.bind_some]
    by_cases h2:0≤t.2.1
    ·have hz:=hfa.2 h2
     have hp0:decide (t.1.Pos=0)=true:=by rw [hz]; rfl
     obtain ⟨M,q1,q2,q3⟩:=Jl7 G t.2.1 a3 (by omega)
     simp only [hp0,Bool.not_true,cond_false,Option.bind_some,decide_eq_true h2,cond_true,q1]
     refine Is.val ⟨_,_,_,rfl, ?_⟩
     unfold Jcg
     simp only [h1,Bool.true_eq_false,if_false,h2,if_true]
     exact ⟨a1,a2,q2,fun z=>by rw [q3,a4]; simp,rfl,by omega⟩
    ·have hd2:decide (0≤t.2.1)=false:=decide_eq_false h2
     by_cases h3:t.1=z0
     ·have hp0:decide (t.1.Pos=0)=true:=by rw [h3]; rfl
      simp only [hp0,Bool.not_true,cond_false,Option.bind_some,hd2]
      refine Is.val ⟨_,_,_,rfl, ?_⟩
      unfold Jcg
      simp only [h1,Bool.true_eq_false,if_false,h2,h3,if_true]
      exact ⟨a1,a2,a3,a4,rfl,by omega⟩
     ·have hset:=hsr.set h3
      have hp0:decide (t.1.Pos=0)=false:=decide_eq_false (by have:=hset.2.2.1; omega)
      have hst:Jcg y e t=⟨y.flank++[t.1],y.guards,y.gaps⟩:=by
       unfold Jcg
       simp only [h1,Bool.true_eq_false,if_false,h2,h3]
      rw [hst] at hnew ⊢
      have hne:t.1∈F∨∀ z∈F,z.El≠t.1.El:=by
       by_cases hin:t.1∈F
       ·exact .inl hin
       ·refine .inr fun z hz ez=>hin ?_
        have:=hnew.one z (by simp [(a2 z).1 hz]) t.1 (by simp) ez
        rw [← this]; exact hz
      obtain ⟨M,q1,q2,q3,q4⟩:=Jo7 F t.1 a1 hne (by omega)
      simp only [hp0,Bool.not_false,cond_true,q1,Option.bind_some,hd2,cond_false]
      refine Is.val ⟨_,_,_,rfl, ?_⟩
      exact ⟨q2,fun z=>by rw [q3,a2]; simp,a3,a4,rfl,by omega⟩
  ·obtain ⟨F',G',X',hv,hR⟩:=hv
   cases hv
   exact Is.val ⟨(F',G',X'),by rw [Gx (by omega)],hR⟩
 ·rintro ⟨F,G,X⟩ hI
  unfold Fe
  have e0:decide (((E.length:Nat):Int)<((E.length:Nat):Int))=false:=decide_eq_false (by omega)
  simp only [e0,cond_false]
  rw [List.take_length] at hI
  exact Is.val ⟨F,G,X,rfl,hI⟩
theorem Jm8 (hp:r.Path.length≤40) (ho:r.Over.length≤40):Gc l r=some (Kck l r):=by
 have hel:(Ew l (r.Path++r.Over)).length≤900:=by
  have:=Rb l (r.Path++r.Over)
  rw [List.length_append] at this; omega
 obtain ⟨o,q1,F,G,X,rfl,hR⟩:=Jym hs hl hr (Ew l (r.Path++r.Over)) hel
 have hS:=Jll hl (Jeh hr (x:=fg0) ⟨by simp [fg0],by simp [fg0],by simp [fg0]⟩)
 simp only [Jhe,fg0] at hS
 unfold Gc
 rw [hS,Option.bind_some,q1]
 simp only [onInl,Vn,Option.bind_some]
 have hF:F=sF (Jlr l r).flank:=hR.asc.asc.one (Kc5 _) fun z=>by rw [Kdd]; exact hR.mem z
 have hG:G=sG (Jlr l r).guards:=hR.ascg.one (Kdz _) fun z=>by rw [Kda]; exact hR.memg z
 rw [hF,hG,hR.gaps]
 rfl
end
end PM
/-
 PLAIN, AUTHORITY G: the law AuthorityGrows (2): the table of a layout, the extension of a track, the law.
-/
namespace PM
open Go Go.RowKit
/-! ### The overlap and the flank of the reference -/
theorem Jsh {l:Je} (hj:l.Joints.length≤1048576) {r:Jm} (hr:r.Sections.length≤1048576) (x:Ki×Bool) (s:Bool×Jj×List Jd) (h:s.2.2.length≤12) :
  Is (Mm l r x s) fun o=>match o with|.inl t=>t.2.2.length≤12∧12 - t.2.2.length<12 - s.2.2.length|.inr o=>∃ v,o=.inl v∧v.length≤12:=by
 obtain ⟨b,e,o⟩:=s
 dsimp only at h
 unfold Mm
 dsimp only
 refine Is.bind (φ:=fun _=>True) (Is.cond (fun _=>by rw [Ja5 l o (by omega)]; exact Is.val trivial) fun _=>Is.val trivial) fun b38 _=>?_
 refine Is.bind (φ:=fun c=>c=true→o.length<12) (Is.cond (fun _=>Is.val fun e=>by have:=of_decide_eq_true e; omega) fun _=>Is.val fun e=>by cases e) fun b40 h40=>?_
 refine Is.bind (φ:=fun c=>c=true→o.length<12) (Is.cond (fun hb=>?_) fun _=>Is.val fun e=>by cases e) fun b41 h41=>?_
 ·exact Is.bind (Is.eq (Jtn l (ovR r o [] []) o e.El (by omega) hr)) fun r42 _=>Is.val fun _=>h40 hb
 ·refine Is.cond (fun hb=>?_) fun _=>Is.val ⟨_,rfl,h⟩
  have hlt:=h41 hb
  rw [Tj,Option.bind_some]
  refine Is.ite Vb (fun _=>Is.val ⟨_,rfl,h⟩) fun hne=>?_
  obtain ⟨y,hy⟩:∃ y,(Ej l e)[0]?=some y:=⟨_,List.getElem?_eq_getElem (by omega)⟩
  rw [show ixO (Ej l e) 0=some y from Wk hy]
  simp only [Option.bind_some]
  refine Is.bind (Is.app (by simp only [List.length_cons,List.length_nil,Kn,Enc.b]; omega)) fun M hM=>?_
  subst hM
  rw [Nq hj]
  exact Is.val ⟨by simp; omega,by simp; omega⟩
theorem Jm5 {l:Je} (hj:l.Joints.length≤1048576) {r:Jm} (hr:r.Sections.length≤1048576):Is (Gn l r) fun r'=>∃ o,o.length≤12∧r'=ovR r o (Jjm l o) (Xe l o):=by
 unfold Gn
 have e0:Gh l (Jm.mk r.Name r.Entry r.Exit r.Path r.Points r.Sections r.Approach r.Length [] [] [] r.Flank r.Guards r.Gaps)=some (Jyk l r):=Jng l (ovR r [] [] [])
 rw [e0,Option.bind_some]
 refine Is.cond (fun _=>Is.val ⟨[],by simp,by rw [Jz5]; rfl⟩) fun _=>?_
 rw [Vi hj,Option.bind_some]
 refine Is.onInl (θ:=fun o=>∃ v,o=.inl v∧v.length≤12) (Is.wf (fun s=>s.2.2.length≤12) (fun s=>12 - s.2.2.length) (fun s hs=>(Jsh hj hr _ s hs).mono fun o ho=>by cases o <;> exact ho) _ _ (Nat.le_refl _) (by simp)) ?_ fun b hb=>by obtain ⟨_,hb,_⟩:=hb; cases hb
 rintro v ⟨w,e,hw⟩
 cases e
 rw [Sv l v (by omega),Mx l v (by omega)]
 exact Is.val ⟨v,hw,rfl⟩
structure TbR (l:Je) (rt:Jm):Prop where
 p0:0<rt.Path.length
 p1:rt.Path.length≤12
 ln:rt.Length=w64 (Ur l rt.Path)
 vp:Wi l rt.Path
 few:Jds rt
theorem Ju2 {l:Je} {r:Jm} (h:r∈Jjr l):r.Length=w64 (Ur l r.Path)∧Wi l r.Path:=by
 unfold Jjr at h
 rw [List.mem_flatMap] at h
 obtain ⟨i,hi,h⟩:=h
 unfold Jb8 at h
 split at h
 ·split at h
  ·rw [List.mem_map] at h
   obtain ⟨k,hk,rfl⟩:=h
   rw [List.mem_range] at hk
   have hg:=Jdf hk
   exact ⟨rfl,(Ta (List.mem_of_getElem? hg)).2.2.1⟩
  ·cases h
 ·cases h
theorem Kei {l:Je} (h:Sm l) (hO:OkL l) {r:Jm} (hr:r∈Jjr l):Is (Gn l r) fun r1=>Is (Gc l r1) fun r2=>TbR l r2:=by
 have hk:=Kbf hr
 have hp:=hk.p1
 have h1:=Jkh l r.Path
 have h2:=Jlo l r.Path
 refine (Jm5 h.jo (r:=r) (by rw [hk.se]; omega)).mono fun r1 hr1=>?_
 obtain ⟨o,o1,rfl⟩:=hr1
 have h3:=Jkh l o
 have h4:=Jlo l o
 have hF:Jds (ovR r o (Jjm l o) (Xe l o)):=⟨by show r.Path.length≤1000; omega,by show o.length≤1000; omega,by show r.Points.length≤1000; rw [hk.po]; omega,by show (Jjm l o).length≤1000; omega,by show r.Flank.length≤1000; rw [hk.fl]; simp,
  by show r.Sections.length≤1000; rw [hk.se]; omega,by show (Xe l o).length≤1000; omega,by show r.Guards.length≤1000; rw [hk.gu]; simp,by show r.Gaps.length≤1000; rw [hk.ga]; simp⟩
 rw [Jm8 h hO hF (by show r.Path.length≤40; omega) (by show o.length≤40; omega)]
 exact Is.val ⟨hk.p0,hp,(Ju2 hr).1,(Ju2 hr).2,Jw8 l hF (by show r.Path.length≤40; omega) (by show o.length≤40; omega)⟩
/-! ### The table -/
theorem Jjx {l:Je} (h:l.Elements.length≤1048576):Is (Cf l) fun L=>L.length≤l.Elements.length:=by
 unfold Cf
 refine Is.fold (L:=l.Elements) (mk:=fun i (o:List Int)=>(i,o)) (fun i o=>o.length≤i) [] (by omega) (by simp) (fun i x o hx hi hI=>?_) fun o hI=>?_
 ·unfold Fx
  refine Is.inb hi ?_
  refine Is.onInl (θ:=fun r=>∃ v,r=.inl v∧v.length≤i+1) (Is.at hx (Is.cond (fun _=>?_) fun _=>Is.val ⟨_,rfl,by omega⟩)) ?_ fun b hb=>by obtain ⟨_,hb,_⟩:=hb; cases hb
  ·refine Is.bind (Is.app (by simp only [List.length_cons,List.length_nil,Kn,Enc.b]; omega)) fun M hM=>?_
   subst hM
   exact Is.val ⟨_,rfl,by simp; omega⟩
  ·rintro v ⟨w,e,hw⟩
   cases e
   exact Is.val ⟨_,rfl,hw⟩
 ·unfold Fx
  exact Is.oub (Is.val (Is.val hI))
theorem Jl9 {l:Je} (h:Sm l):Is (Hn l) fun r=>r.2=0→r.1.Routes.length≤48∧r.1.Points.length≤1048576∧r.1.Homes.length≤1048576∧∀ rt∈r.1.Routes,TbR l rt:=by
 unfold Hn
 rw [Kdg h,Option.bind_some]
 by_cases hc:chk l=0
 ·have hO:=(Jxs l).1 hc
  rw [if_pos hc]
  by_cases h48:48<(Jjr l).length
  ·rw [if_pos h48]
   exact Is.cond (fun _=>Is.val fun e=>by cases e) fun e=>by simp at e
  ·rw [if_neg h48]
   refine Is.cond (fun e=>by simp at e) fun _=>?_
   have hel:=h.el
   refine (Jjx hel).bind fun P hP=>?_
   refine Is.fold (L:=Jjr l) (mk:=fun i (o:List Jm)=>(i,o)) (fun i o=>o.length=i∧∀ rt∈o,TbR l rt) [] (by omega) ⟨rfl,by simp⟩ (fun i x o hx hi hI=>?_) fun o hI=>?_
   ·unfold Il
    dsimp only
    refine Is.inb hi (Is.at hx ?_)
    refine (Kei h hO (List.mem_of_getElem? hx)).bind fun r1 h1=>h1.bind fun r2 h2=>?_
    refine Is.bind (Is.app (by have:=hI.1; simp only [List.length_cons,List.length_nil,Kn,Enc.b]; omega)) fun M hM=>?_
    subst hM
    refine Is.val ⟨_,rfl,by simp [hI.1],fun rt hrt=>?_⟩
    rcases List.mem_append.1 hrt with q|q
    ·exact hI.2 rt q
    ·simp at q; subst q; exact h2
   ·unfold Il
    dsimp only
    refine Is.oub (Is.val ?_)
    refine Is.fold (L:=P) (mk:=fun i (o:List Int)=>(i,o)) (fun i o=>o.length=i) [] (by omega) rfl (fun i x z hx hi hz=>?_) fun z hz=>?_
    ·unfold Ip
     refine Is.inb hi (Is.at hx ?_)
     rw [Dm,Option.bind_some]
     refine Is.bind (Is.app (by simp only [List.length_cons,List.length_nil,Kn,Enc.b]; omega)) fun M hM=>?_
     subst hM
     exact Is.val ⟨_,rfl,by simp [hz]⟩
    ·unfold Ip
     refine Is.oub (Is.val (Is.val fun _=>⟨?_, ?_, ?_,hI.2⟩))
     ·show o.length≤48; have:=hI.1; omega
     ·show P.length≤1048576; omega
     ·show z.length≤1048576; omega
 ·rw [if_neg hc]
  refine Is.cond (fun _=>Is.val fun e=>absurd e hc) fun e=>?_
  simp [hc] at e
theorem Kfb (x y:Jd):Tt x y=true↔x=y:=by cases x; cases y; simp [Tt]
theorem Jxv {a b:List Jd} (h:a.length≤1000):Is (Ee a b) fun r=>r=true↔a=b:=Jlc Kfb (by omega) fun _=>rfl
theorem Jxr {a b:List Jh} (h:a.length≤1000):Is (Bg a b) fun r=>r=true↔a=b:=Jlc Jn6 (by omega) fun _=>rfl
theorem Jya {a b:List Int} (h:a.length≤1000):Is (Fv a b) fun r=>r=true↔a=b:=Jlc (eqf:=fun x y=>decide (x=y)) (fun _ _=>Vb) (by omega) fun _=>rfl
theorem Jxc {a b:List Int} (h:a.length≤1048576):Is (Bx a b) fun r=>r=true↔a=b:=Jlc (eqf:=fun x y=>decide (x=y)) (fun _ _=>Vb) h fun _=>rfl
theorem Ke3 {a b:List Jj} (h:a.length≤1000):Is (Ft a b) fun r=>r=true↔a=b:=Jlc Li (by omega) fun _=>rfl
theorem Jyz {b:Bool} {y:Option Bool} {p q:Prop} (hb:b=true→p) (hy:Is y fun c=>c=true↔q):Is (bif b then y else some false) fun c=>c=true→p∧q :=
 Is.cond (fun h=>hy.mono fun _ hc e=>⟨hb h,hc.1 e⟩) fun _=>Is.val fun e=>by cases e
theorem Jv3 {a b:Jm} (h:Jds a):Is (Lo a b) fun r=>r=true→a=b:=by
 unfold Lo Bo Wc Zd
 simp only [Jqa]
 refine Is.cond (fun _=>Is.val fun e=>by cases e) fun h0=>?_
 simp only [Bool.or_eq_false_iff,Bool.not_eq_false',decide_eq_true_eq] at h0
 refine (Jxv h.path).bind fun r1 h1=>?_
 refine Is.bind (φ:=fun c=>c=false→a.Path=b.Path∧a.Points=b.Points) ?_ fun b2 h2=>?_
 ·cases r1 with
  | false=>exact Is.val fun e=>by cases e
  | true=>exact (Jxr h.pts).bind fun r3 h3=>Is.val fun e=>⟨h1.1 rfl,h3.1 (by simpa using e)⟩
 refine Is.bind (φ:=fun c=>c=false→(a.Path=b.Path∧a.Points=b.Points)∧a.Sections=b.Sections) ?_ fun b4 h4=>?_
 ·cases b2 with
  | true=>exact Is.val fun e=>by cases e
  | false=>exact (Jya h.secs).bind fun r3 h3=>Is.val fun e=>⟨h2 rfl,h3.1 (by simpa using e)⟩
 refine Is.cond (fun _=>Is.val fun e=>by cases e) fun hb4=>?_
 refine (Jxv h.over).bind fun r6 h6=>?_
 refine (Jyz h6.1 (Jxr h.ops)).bind fun b7 h7=>?_
 refine (Jyz h7 (Jya h.osecs)).bind fun b9 h9=>?_
 refine (Jyz h9 (Jxr h.flank)).bind fun b11 h11=>?_
 refine (Jyz h11 (Jya h.guards)).bind fun b13 h13=>?_
 refine (Jyz h13 (Ke3 h.gaps)).mono fun b15 h15=>fun e=>?_
 have k:=h15 e
 have k4:=h4 hb4
 cases a; cases b
 simp only at h0 k k4
 simp only [Jm.mk.injEq]
 exact ⟨h0.1.1.1.1,h0.1.1.1.2,h0.1.1.2,k4.1.1,k4.1.2,k4.2,h0.1.2,h0.2,k.1.1.1.1.1,k.1.1.1.1.2,k.1.1.1.2,k.1.1.2,k.1.2,k.2⟩
theorem Jwc {x t:Qa} (hx:∀ rt∈x.Routes,Jds rt) (hl:x.Routes.length≤48) (h2:x.Points.length≤1048576) (h3:x.Homes.length≤1048576):Is (Mp x t) fun r=>r=true→x.Routes=t.Routes:=by
 unfold Mp
 refine Is.bind (φ:=fun c=>c=false→x.Routes.length=t.Routes.length) ?_ fun b1 h1=>?_
 ·refine Is.ifn (p:=x.Routes.length=t.Routes.length) (by rw [decide_eq_true_iff]; omega) (fun _=>Is.val fun e=>by cases e) fun hl=>?_
  exact (Jxc h2).bind fun r _=>Is.val fun _=>hl
 refine Is.bind (φ:=fun c=>c=false→x.Routes.length=t.Routes.length) ?_ fun b3 h3'=>?_
 ·refine Is.cond (fun _=>Is.val fun e=>by cases e) fun hb=>?_
  exact (Jxc h3).bind fun r _=>Is.val fun _=>h1 hb
 refine Is.cond (fun _=>Is.val fun e=>by cases e) fun hb=>?_
 simp only [Bool.or_eq_false_iff] at hb
 have hlen:=h3' hb.1.1
 refine Is.all (L:=x.Routes) (fun i y=>t.Routes[i]?=some y) () (by omega) (fun i y hy hi _=>?_) (by simp [Mt]) fun hn=>Is.val fun _=>?_
 ·unfold Mt
  have hg:t.Routes[i]?=some t.Routes[i]:=List.getElem?_eq_getElem (by omega)
  refine Is.inb hi (Is.at hy (Is.at hg ?_))
  refine (Jv3 (hx y (List.mem_of_getElem? hy))).bind fun r hr=>?_
  cases r with
  | false=>exact Is.val fun e=>by cases e
  | true=>exact Is.val ⟨rfl,by rw [hg,hr rfl]⟩
 ·apply List.ext_getElem?
  intro i
  cases hy:x.Routes[i]? with
  | some y=>exact (hn i y hy).symm
  | none=>exact (List.getElem?_eq_none (by have:=List.getElem?_eq_none_iff.1 hy; omega)).symm
/-! ### The extension of a track -/
theorem Jw5 {k:Kj} (h:k.Steps.length≤100) (s:Jd):Is (Zj s k) fun _=>True:=by
 unfold Zj Qq Qz
 simp only [Jqa]
 refine Is.bind (φ:=fun _=>True) ?_ fun _ _=>Is.val trivial
 refine Is.all (L:=k.Steps) (fun _ _=>True) () (by omega) (fun i x hx hi _=>?_) (by simp [Vq]) fun _=>Is.val trivial
 unfold Vq Zs
 refine Is.inb hi (Is.at hx ?_)
 rw [Option.bind_some]
 exact Is.cond (fun _=>Is.val trivial) fun _=>Is.val ⟨rfl,trivial⟩
theorem Jl1 {k:Kj} (h:k.Steps.length≤100) {L:List Jd} (hL:L.length≤1000):Is (Qn L k) fun _=>True:=by
 unfold Qn Ue
 refine Is.bind (φ:=fun _=>True) ?_ fun _ _=>Is.val trivial
 refine Is.all (L:=L) (fun _ _=>True) () (by omega) (fun i x hx hi _=>?_) (by simp [Ub]) fun _=>Is.val trivial
 unfold Ub
 refine Is.inb hi (Is.at hx ?_)
 refine (Jw5 h x).bind fun r _=>?_
 exact Is.cond (fun _=>Is.val trivial) fun _=>Is.val ⟨rfl,trivial⟩
def FolG (t:Qa) (k:Kj):Int⊕Jm→Prop
 | .inl e=>e≠0
 | .inr x=>x∈t.Routes∧k.Steps.length+x.Path.length≤64
theorem Jx5 {A:Type} {D:Option (Unit⊕A)} {f:Unit→Option A} {G:A→Prop} {p:Prop} (h:Is D fun o=>match o with|.inl _=>p|.inr b=>G b) (hf:p→Is (f ()) G):Is (onInl D f) G :=
 Is.onInl (θ:=fun o=>match o with|.inl _=>p|.inr b=>G b) h (fun _ hv=>hf hv) fun _ hb=>hb
theorem Jwf {t:Qa} {k:Kj} (ht:∀ rt∈t.Routes,rt.Path.length≤1000) (h1:k.Steps.length≤100) (h2:k.Routes.length≤100) (i:Int):Is (Dw t k i) (FolG t k):=by
 unfold Dw
 refine Jx5 (p:=0≤i∧i<(t.Routes.length:Nat)) ?_ fun hi=>?_
 ·refine Is.bind (φ:=fun c=>c=false→0≤i∧i<(t.Routes.length:Nat)) (Is.ite (p:=i<0) Vb (fun _=>Is.val fun e=>by cases e) fun hn=>Is.val fun e=>by have:=of_decide_eq_false e; omega) fun b hb=>?_
  exact Is.cond (fun _=>Is.val (by show (1:Int)≠0; decide)) fun e=>Is.val (hb e)
 refine (Is.ix hi.1 hi.2).bind fun x hx=>?_
 have hmem:=List.mem_of_getElem? hx
 refine Jx5 (p:=True) (Is.cond (fun _=>Is.val (by show (11:Int)≠0; decide)) fun _=>Is.val trivial) fun _=>?_
 refine Jx5 (p:=True) (Is.cond (fun _=>Is.val (by show (10:Int)≠0; decide)) fun _=>Is.val trivial) fun _=>?_
 refine Jx5 (p:=True) ?_ fun _=>?_
 ·refine (Jl1 h1 (ht x hmem)).bind fun r _=>?_
  refine Is.bind (φ:=fun _=>True) (Is.cond (fun _=>Is.val trivial) fun _=>by rw [Jsw _ _ (by omega)]; exact Is.val trivial) fun b _=>?_
  exact Is.cond (fun _=>Is.val (by show (8:Int)≠0; decide)) fun _=>Is.val trivial
 have hp:=ht x hmem
 refine Jx5 (p:=k.Steps.length+x.Path.length≤64) ?_ fun hp=>Is.val ⟨hmem,hp⟩
 refine Is.cond (fun _=>Is.val (by show (2:Int)≠0; decide)) fun e=>Is.val ?_
 simp only [Bool.or_eq_false_iff,decide_eq_false_iff_not] at e
 have:=e.1
 rw [Va (by omega) (by omega)] at this
 omega
theorem Jwn {l:Je} {x:Jm} (h:x.Path.length≤1000) (hs:x.Sections.length≤1000):Is (Dl l x) fun _=>True:=by
 unfold Dl
 refine Is.ite Vb (fun _=>Is.val trivial) fun hne=>?_
 rw [Va (by omega) (by omega),show ((x.Sections.length:Nat):Int) - 1=((x.Sections.length - 1:Nat):Int) by omega]
 refine (Is.ixn (by omega)).bind fun z _=>?_
 refine Is.fold (L:=x.Path) (mk:=fun i (o:Int)=>(o,i)) (fun _ _=>True) 0 (by omega) trivial (fun i y o hy hi _=>?_) fun o _=>?_
 ·unfold Ed
  dsimp only
  refine Is.inb hi ?_
  refine Is.onInl (θ:=fun r=>∃ v,r=.inl v) (Is.at hy ?_) ?_ fun b hb=>by obtain ⟨_,hb⟩:=hb; cases hb
  ·rw [Jhp,Option.bind_some]
   refine Is.cond (fun _=>?_) fun _=>Is.val ⟨_,rfl⟩
   unfold Ic
   rw [Jmj l _ (by simp)]
   exact Is.val ⟨_,rfl⟩
  ·rintro v ⟨w,e⟩
   exact Is.val ⟨_,rfl,trivial⟩
 ·unfold Ed
  exact Is.oub (Is.val (Is.val trivial))
theorem Jvw (l:Je) {t:Qa} {k:Kj} (ht:∀ rt∈t.Routes,Jds rt) (h1:k.Steps.length≤100) (h2:k.Routes.length≤100) (h3:k.Starts.length≤100) (h4:k.Ends.length≤100) (h5:k.Done.length≤100) (i:Int) :
  Is (Ds l t k i) fun o=>o.2=0→∃ x∈t.Routes,o.1.Steps=k.Steps++x.Path∧o.1.Origin=k.Origin∧o.1.At=w64 (k.At+x.Length)∧k.Steps.length+x.Path.length≤64:=by
 unfold Ds Juv
 refine (Jwf (fun rt hrt=>(ht rt hrt).path) h1 h2 i).bind fun o ho=>?_
 cases o with
 | inl e=>exact Is.val fun e0=>absurd e0 ho
 | inr x =>
  dsimp only
  have hx:=ht x ho.1
  have hp:=hx.path
  unfold Yi Vz
  rw [Jcr (L:=k.Steps) (by simp only [Enc.b,Kn]; omega),Jcr (L:=k.Routes) (by simp only [Enc.b,Kn]; omega),Jcr (L:=k.Starts) (by simp only [Enc.b,Kn]; omega),Jcr (L:=k.Ends) (by simp only [Enc.b,Kn]; omega),Jcr (L:=k.Done) (by simp only [Enc.b,Kn]; omega)]
  simp only [Option.bind_some]
  refine Is.bind (Is.app (by simp only [Kn,Enc.b]; omega)) fun x18 e18=>Is.bind (Is.app (by simp only [List.length_cons,List.length_nil,Kn,Enc.b]; omega)) fun x19 _=>(Jwn hp hx.secs).bind fun r20 _=>?_
  refine Is.bind (Is.app (by simp only [List.length_cons,List.length_nil,Kn,Enc.b]; omega)) fun x21 _=>Is.bind (Is.app (by simp only [List.length_cons,List.length_nil,Kn,Enc.b]; omega)) fun x22 _=>?_
  exact Is.val fun _=>⟨x,ho.1,e18,rfl,rfl,ho.2⟩
/-! ### The law -/
structure Mod (k:Kj) (list:List Ju):Prop where
 st:k.Steps.length≤100
 li:list.length≤100
 ro:k.Routes.length≤100
 sa:k.Starts.length≤100
 en:k.Ends.length≤100
 dn:k.Done.length≤100
theorem Juf (k:Kj) (list:List Ju):Is (Fp k list) fun b=>b=true→Mod k list:=by
 unfold Fp
 simp only [Option.bind_some,Jel,Bool.cond_false_right]
 refine Is.val fun hb=>?_
 simp only [Bool.and_eq_true,decide_eq_true_eq] at hb
 exact ⟨by omega,by omega,by omega,by omega,by omega,by omega⟩
structure Fin (k:Kj):Prop where
 o:-1073741824≤k.Origin∧k.Origin≤1073741824
 a:-1073741824≤k.At∧k.At≤1073741824
theorem Js7 {l:Je} (h:Sm l) (k:Kj):Is (Ga l k) fun b=>b=true→OkL l∧PM.Fin k:=by
 unfold Ga
 rw [Jck h]
 refine Is.val fun hb=>?_
 simp only [Bool.and_eq_true,decide_eq_true_eq] at hb
 exact ⟨(Jxs l).1 hb.1.1.1.1,⟨hb.1.1.1.2,hb.1.1.2⟩,⟨hb.1.2,hb.2⟩⟩
theorem Jf9 {n:Int}:Is (Vp n) fun _=>True:=by unfold Vp; exact Is.val trivial
theorem Jw1 (t:Qa) {k:Kj} (h:k.Routes.length≤100):Is (Ff t k) fun _=>True:=by
 unfold Ff
 refine Is.bind (φ:=fun c=>c=false→k.Starts.length=k.Routes.length∧k.Ends.length=k.Routes.length) (Is.ifn (p:=k.Starts.length=k.Routes.length) (by rw [decide_eq_true_iff]; omega) (fun _=>Is.val fun e=>by cases e) fun hs=>Is.val fun e=>⟨hs,by simp only [Bool.not_eq_false',decide_eq_true_eq] at e; omega⟩) fun b hb=>?_
 refine Is.cond (fun _=>Is.val trivial) fun e=>?_
 obtain ⟨e1,e2⟩:=hb e
 refine Is.all (L:=k.Routes) (fun _ _=>True) () (by omega) (fun i x hx hi _=>?_) (by simp [Gm]) fun _=>?_
 ·unfold Gm
  refine Is.inb hi (Is.at hx ?_)
  refine Is.bind (φ:=fun _=>True) (Is.cond (fun _=>Is.val trivial) fun _=>Is.val trivial) fun b20 _=>?_
  refine Is.bind (φ:=fun _=>True) (Is.cond (fun _=>Is.val trivial) fun _=>(Is.ixn (by omega)).bind fun y _=>Jf9.bind fun _ _=>Is.val trivial) fun b21 _=>?_
  refine Is.bind (φ:=fun _=>True) (Is.cond (fun _=>Is.val trivial) fun _=>(Is.ixn (by omega)).bind fun y _=>Jf9.bind fun _ _=>Is.val trivial) fun b24 _=>?_
  exact Is.cond (fun _=>Is.val trivial) fun _=>Is.val ⟨rfl,trivial⟩
 ·refine Jf9.bind fun _ _=>?_
  simp only [Jqa]
  exact Is.cond (fun _=>Jf9) fun _=>Is.val trivial
theorem Jxx {l:Je} (hO:OkL l) {x:Jm} (hx:TbR l x):500≤Ur l x.Path∧Ur l x.Path≤12000000:=by
 have hh:∀ s∈x.Path,Uv l s.El=true:=fun s hs=>hx.vp.has hs
 have h0:=hx.p0; have h1:=hx.p1
 revert hh h0 h1
 cases x.Path with
 | nil=>intro _ h; simp at h
 | cons s r =>
  intro hh _ h1
  have h2:=hO.lens (hh s (by simp))
  have h3:=hO.sum (way:=r) fun t ht=>hh t (by simp [ht])
  simp only [List.length_cons] at h1
  simp only [Ur]
  omega
theorem Jer {l:Je} (h:Sm l) (t:Qa) (k:Kj) (list:List Ju) (route seq:Int):Vk l t k list route seq=some true:=by
 suffices Is (Vk l t k list route seq) fun r=>r=true by obtain ⟨r,h,rfl⟩:=this; exact h
 unfold Vk
 refine (Juf k list).bind fun r1 h1=>?_
 refine Is.bind (φ:=fun c=>c=false→Mod k list∧OkL l∧PM.Fin k) ?_ fun b2 h2=>?_
 ·cases r1 with
  | false=>exact Is.val fun e=>by cases e
  | true=>exact (Js7 h k).bind fun r3 h3=>Is.val fun e=>⟨h1 rfl,h3 (by simpa using e)⟩
 refine Is.bind (φ:=fun c=>c=false→b2=false) (Is.cond (fun _=>Is.val fun e=>by cases e) fun e=>Is.val fun _=>e) fun b4 h4=>?_
 refine Is.bind (φ:=fun c=>c=false→b2=false) ?_ fun b5 h5=>?_
 ·refine Is.cond (fun _=>Is.val fun e=>by cases e) fun e=>?_
  simp only [Bool.or_eq_false_iff] at e
  have hb:=h4 e.1.1
  exact (Jw1 t (h2 hb).1.ro).bind fun _ _=>Is.val fun _=>hb
 refine Is.cond (fun _=>Jml) fun hb5=>?_
 obtain ⟨hm,hO,hf⟩:=h2 (h5 hb5)
 refine (Jl9 h).bind fun r8 h8=>?_
 refine Is.bind (φ:=fun c=>c=false→∀ rt∈t.Routes,TbR l rt) ?_ fun b9 h9=>?_
 ·refine Is.ifn (p:=r8.2=0) Vb (fun _=>Is.val fun e=>by cases e) fun h0=>?_
  obtain ⟨q1,q2,q3,q4⟩:=h8 h0
  refine (Jwc (t:=t) (fun rt hrt=>(q4 rt hrt).few) q1 q2 q3).bind fun r10 h10=>Is.val fun e=>?_
  have:=h10 (by simpa using e)
  rw [← this]; exact q4
 refine Is.cond (fun _=>Jml) fun hb9=>?_
 have hT:=h9 hb9
 refine (Jsd h hO hm.st hf.o (list:=list) (by have:=hm.li; omega) seq).bind fun r12 h12=>?_
 refine (Jvw l (fun rt hrt=>(hT rt hrt).few) hm.st hm.ro hm.sa hm.en hm.dn route).bind fun r13 h13=>?_
 refine Is.bind (φ:=fun c=>c=false→r12.2=0∧r13.2=0∧PM.Fin r13.1) ?_ fun b14 h14=>?_
 ·refine Is.cond (fun _=>Is.val fun e=>by cases e) fun e=>?_
  simp only [Bool.or_eq_false_iff,Bool.not_eq_false',decide_eq_true_eq] at e
  exact (Js7 h r13.1).bind fun r15 h15=>Is.val fun q=>⟨e.1,e.2,(h15 (by simpa using q)).2⟩
 refine Is.cond (fun _=>Jml) fun hb14=>?_
 obtain ⟨z12,z13,hf'⟩:=h14 hb14
 obtain ⟨x,hx,x1,x2,x3,x4⟩:=h13 z13
 obtain ⟨p12,g12⟩:=h12
 obtain ⟨hv,ha,ea,pa⟩:=g12 z12
 refine (Jsd h hO (k:=r13.1) (by rw [x1,List.length_append]; omega) hf'.o (list:=list) (by have:=hm.li; omega) _).bind fun r17 h17=>?_
 obtain ⟨p17,g17⟩:=h17
 refine Is.bind (φ:=fun c=>c=true) ?_ fun b18 h18=>Jwl h18
 refine Is.ifn (p:=r17.2=0) Vb (fun _=>Is.val rfl) fun h0=>?_
 obtain ⟨_,hb,eb,pb⟩:=g17 h0
 have hs:=Jxx hO (hT x hx)
 have hlt:r12.1.End<r17.1.End:=by
  have h6:=hf.a
  rw [ea,eb,x3,(hT x hx).ln,Va (n:=Ur l x.Path) (by omega) (by omega),Va (by omega) (by omega)]; omega
 rw [Jv4 hO x2 x1 hv ha hb ea pa pb p12 p17 (by omega),decide_eq_true hlt]
 exact Is.val rfl
end PM
