/-
 Plain laws, joined: LnkA RbcA.
-/
import Derived.Test.YtfpoeepcomnjhaaGreatDoorDen
/-
 PLAIN, LINKING A: linked balises: Valid, Overdue, equal lists.
-/
namespace PM
open Go Go.RowKit
/-! ### Loops -/
theorem Jyr {x:Option Bool}:(x.bind fun r=>some r)=x:=by cases x <;> rfl
theorem Ju3 {α:Type} {eqf:α→α→Bool} (heq:∀ x y,eqf x y=true↔x=y) {L M:List α} (h:L.length≤1048576) {step:Int→Option (Int⊕(Unit⊕Bool))}
  (hs:∀ x3,step x3=bif decide (x3<((L.length:Nat):Int)) then ((ixO L x3).bind fun x6=>(ixO M x3).bind fun x7=>bif (!(eqf x6 x7)) then some (.inr (.inr false)) else some (.inl (w64 (x3+1)))) else some (.inr (.inl ()))) :
  Is (bif (!(decide (((L.length:Nat):Int)=((M.length:Nat):Int)))) then some false else onInl (α:=Unit) (β:=Bool) (Ko step 0) fun _=>some true) fun b=>b=true↔L=M:=by
 refine Is.ifn (p:=L.length=M.length) (by rw [decide_eq_true_iff]; omega) (fun hl=>Is.val (iff_of_false Bool.false_ne_true fun e=>hl (congrArg _ e))) (fun hl=>?_)
 refine Is.all (L:=L) (fun i x=>M[i]? = some x) () (by omega) (fun i x hx hi _=>?_) (by rw [hs]; simp) (fun hn=>Is.val (iff_of_true rfl ?_))
 ·rw [hs]
  have hg:M[i]? = some M[i]:=List.getElem?_eq_getElem (by omega)
  refine Is.inb hi (Is.at hx (Is.at hg ?_))
  refine Is.ifn (heq _ _) (fun hb=>Is.val (iff_of_false Bool.false_ne_true fun e=>?_)) (fun hb=>Is.val ⟨rfl,by rw [hg,hb]⟩)
  subst e; rw [hg] at hx; cases hx; exact hb rfl
 ·apply List.ext_getElem?
  intro i
  cases hx:L[i]? with
  | some x=>exact (hn i x hx).symm
  | none=>exact (List.getElem?_eq_none (by have:=List.getElem?_eq_none_iff.1 hx; omega)).symm
/-! ### Linked balises -/
/-! ### The laws of Valid and Overdue -/
end PM
/-
 PLAIN, RBC A: centers; Stop and Shorten; the law RbcStops.
-/
namespace PM
open Go Go.RowKit
theorem Jcs {α:Type} [Enc α] {L:List α} (h:L.length * Enc.b α≤Qi∧L.length≤Qi):Ut ([]:List α) L=some L:=by
 unfold Ut
 rw [if_pos (by simpa using h)]; rfl
theorem Jt1 (o:Nat) {n i:Nat} (h:i<n):Wn o n (i:Int)=some (o+i):=by
 unfold Wn
 rw [if_pos (by omega)]; rfl
theorem Js5 {α:Type} {L:List α} {n j:Nat} (h:L.length=n):Vq L n j=L[j]?:=by
 unfold Vq
 rw [if_pos h]
theorem Jzv {κ ν:Type} [Key κ] [Enc ν] (m:List (κ×ν)) (k j:κ) (v:ν):Vy (Cq k v m) j=if j=k then some v else Vy m j:=Jxv k v j m
/-- A track with short lists. -/
structure Jxf (k:Jg):Prop where
 steps:k.Steps.length≤1000
 routes:k.Routes.length≤1000
 starts:k.Starts.length≤1000
 ends:k.Ends.length≤1000
 done:k.Done.length≤1000
structure Jea (c:Jw):Prop where
 tr:c.Tracks.length≤1000
 se:c.Sessions.length≤1000
 each:∀ k∈c.Tracks,Jxf k
theorem Jyt {L:List Jf} (h:L.length≤1000):Qg L=some L:=by
 unfold Qg; rw [Jcs (by simp only [Qi,Enc.b]; omega)]; rfl
theorem Jol {L:List Int} (h:L.length≤1000):Kn L=some L:=by
 unfold Kn; rw [Jcs (by simp only [Qi,Enc.b]; omega)]; rfl
theorem Jwy {L:List Jk} (h:L.length≤1000):Ue L=some L:=by
 unfold Ue; rw [Jcs (by simp only [Qi,Enc.b]; omega)]; rfl
theorem Jwf {L:List Jk} (h:L.length≤1000):Vh L=some L:=by
 unfold Vh; rw [Jcs (by simp only [Qi,Enc.b]; omega)]; rfl
def tr0 : Jg:=Jg.mk 0 0 0 0 [] [] [] [] [] 0 0 0 0 0
/-- One round of the copying of tracks. -/
noncomputable def Joh {B:Type} (T Z:List Jg):(Int×(List Jg))→Option ((Int×(List Jg))⊕((List Jg)⊕B)):=fun (x44,x45) =>
 bif decide (x44<((T.length:Nat):Int)) then (
  (ixO T x44).bind fun x55 =>
  (Qg x55.Steps).bind fun r56 =>
  (Kn x55.Routes).bind fun r57 =>
  (Kn x55.Starts).bind fun r58 =>
  (Kn x55.Ends).bind fun r59 =>
  (Kn x55.Done).bind fun r60 =>
  (Wn 0 (((Z:(List Jg)).map cellsOf).length) x44).bind fun j61 =>
  (Vq x45 (((Z:(List Jg)).map cellsOf).length) j61).bind fun x62 =>
  some (.inl (w64 (x44+1),(x45.set j61 (Jg.mk x55.Id x55.Origin x55.End x55.At r56 r57 r58 r59 r60 x55.Min x55.Sent x55.Accepted x55.Cut x55.CutSeq))))
 ) else (
  some (.inr (.inl x45))
 )
theorem Jr7 {B:Type} {T:List Jg} (hT:T.length≤1000) (hf:∀ k∈T,Jxf k):Ko (Joh (B:=B) T (List.replicate T.length tr0)) (0,List.replicate T.length tr0)=some (.inl T):=by
 have:Is (Ko (Joh (B:=B) T (List.replicate T.length tr0)) (0,List.replicate T.length tr0)) fun o=>o=.inl T:=by
  refine Is.loop (mk:=fun k (s:List Jg)=>((k:Int),s)) T.length (fun k s=>s.length=T.length∧∀ j,j<k→s[j]? = T[j]?) (List.replicate T.length tr0) ⟨by simp,fun j hj=>by omega⟩ (fun k s hk hI=>?_) (fun s hI=>?_)
  ·have hx:=List.getElem?_eq_getElem hk
   have hm:=hf _ (List.mem_of_getElem? hx)
   generalize T[k]=x at hx hm
   have hN:(((List.replicate T.length tr0:List Jg).map cellsOf).length)=T.length:=by simp
   have hxi:Wn 0 (((List.replicate T.length tr0:List Jg).map cellsOf).length) (k:Int)=some k:=by rw [Jt1 0 (by rw [hN]; exact hk),Nat.zero_add]
   have hld:∃ y,Vq s (((List.replicate T.length tr0:List Jg).map cellsOf).length) k=some y:=⟨s[k],by rw [Js5 (by rw [hN,hI.1])]; exact List.getElem?_eq_getElem (by omega)⟩
   obtain ⟨y,hld⟩:=hld
   simp only [Joh]
   rw [decide_eq_true (by omega),cond_true]
   refine Is.at hx ?_
   rw [Jyt hm.steps,Option.bind_some,Jol hm.routes,Option.bind_some,Jol hm.starts,Option.bind_some,Jol hm.ends,Option.bind_some,Jol hm.done,Option.bind_some,hxi,Option.bind_some,hld,Option.bind_some]
   refine Is.val ⟨_,by rw [Jvz (by omega)],by rw [List.length_set]; exact hI.1,fun j hj=>?_⟩
   by_cases e:j=k
   ·subst e
    rw [List.getElem?_set_self (by omega),hx]
   ·rw [List.getElem?_set_ne (by omega)]
    exact hI.2 j (by omega)
  ·simp only [Joh]
   rw [decide_eq_false (by omega),cond_false]
   refine Is.val ?_
   congr 1
   congr 1
   apply List.ext_getElem?
   intro j
   by_cases hj:j<T.length
   ·exact hI.2 j hj
   ·rw [List.getElem?_eq_none (by omega),List.getElem?_eq_none (by omega)]
 obtain ⟨o,h1,rfl⟩:=this
 exact h1
theorem Jtw {T:List Jg} (hT:T.length≤1000):Jrl ((T.length:Nat):Int) ((T.length:Nat):Int) 192 tr0=some (List.replicate T.length tr0):=by
 unfold Jrl
 rw [if_pos ⟨by omega,by omega,by simp only [Qi]; omega,by simp only [Qi]; omega⟩]
 rfl
/-! ### The track of a train -/
def Ye (T:List Jg) (id:Int):Option Nat:=T.findIdx? fun k=>decide (k.Id=id)
theorem Jdx {T:List Jg} {id:Int} {n:Nat} (h:Ye T id=some n):n<T.length:=by
 unfold Ye at h
 exact (List.findIdx?_eq_some_iff_findIdx_eq.1 h).1
theorem Jk3 {T:List Jg} (hT:T.length≤1000):Is (Cc T) fun m=>∀ id,Vy m id=(Ye T id).map fun (n:Nat)=>(n:Int):=by
 unfold Cc
 refine Is.onInl (θ:=fun o=>∃ m,o=.inl m∧∀ id,Vy m id=(Ye T id).map fun (n:Nat)=>(n:Int)) ?_ (fun v hv=>by obtain ⟨m,e,h⟩:=hv; cases e; exact Is.val h) (fun b hb=>by obtain ⟨_,e,_⟩:=hb; cases e)
 refine Is.loop (mk:=fun k (s:List (Int×Int))=>((k:Int),s)) T.length (fun k m=>∀ id,Vy m id=(Ye (T.take k) id).map fun (n:Nat)=>(n:Int)) [] (fun id=>rfl) (fun k m hk hI=>?_) (fun m hI=>?_)
 ·have hx:=List.getElem?_eq_getElem hk
  generalize T[k]=x at hx
  have ht:∀ id,Ye (T.take (k+1)) id=(Ye (T.take k) id).or (if x.Id=id then some k else none):=fun id=>by
   unfold Ye
   rw [Jvq hx,List.findIdx?_append,List.length_take,Nat.min_eq_left (by omega)]
   congr 1
   by_cases e:x.Id=id
   ·simp [e]
   ·simp [e]
  simp only [Ez]
  rw [decide_eq_true (by omega),cond_true]
  refine Is.onInl (θ:=fun o=>∃ m',o=.inl m'∧∀ id,Vy m' id=(Ye (T.take (k+1)) id).map fun (n:Nat)=>(n:Int)) (Is.at hx ?_) (fun v hv=>?_) (fun b hb=>by obtain ⟨_,e,_⟩:=hb; cases e)
  ·refine Is.cond (fun hc=>Is.val ⟨_,rfl,fun id=>?_⟩) fun hc=>Is.val ⟨_,rfl,fun id=>?_⟩
   ·rw [hI] at hc
    rw [Jzv,hI,ht]
    by_cases e:id=x.Id
    ·subst e
     rw [if_pos rfl,if_pos rfl]
     cases h:Ye (T.take k) x.Id with
     | none=>rfl
     | some n=>rw [h] at hc; cases hc
    ·rw [if_neg e,if_neg (fun q=>e q.symm)]
     cases Ye (T.take k) id <;> rfl
   ·rw [hI] at hc
    rw [hI,ht]
    by_cases e:x.Id=id
    ·subst e
     cases h:Ye (T.take k) x.Id with
     | none=>rw [h] at hc; cases hc
     | some n=>rfl
    ·rw [if_neg e]
     cases Ye (T.take k) id <;> rfl
  ·obtain ⟨m',e,h⟩:=hv
   cases e
   exact Is.val ⟨_,by rw [Jvz (by omega)],h⟩
 ·simp only [Ez]
  rw [decide_eq_false (by omega),cond_false]
  refine Is.val ⟨_,rfl,fun id=>?_⟩
  rw [hI,List.take_length]
theorem Jo0 {c:Jw} (hT:c.Tracks.length≤1000) (id:Int):Zu c id=some (match Ye c.Tracks id with|some n=>(n:Int)|none => -1):=by
 have:Is (Zu c id) fun r=>r=(match Ye c.Tracks id with|some n=>(n:Int)|none => -1):=by
  unfold Zu
  refine Is.all (L:=c.Tracks) (fun _ x=>x.Id≠id) () (by omega) (fun i x hx hi hI=>?_) (by simp [Fi]) (fun hn=>Is.val ?_)
  ·unfold Fi
   refine Is.inb hi (Is.at hx (Is.cond (fun hc=>Is.val ?_) fun hc=>Is.val ⟨rfl,of_decide_eq_false hc⟩))
   have hc:=of_decide_eq_true hc
   have:Ye c.Tracks id=some i:=by
    unfold Ye
    rw [List.findIdx?_eq_some_iff_getElem]
    refine ⟨hi, ?_,fun j hj=>?_⟩
    ·rw [List.getElem?_eq_getElem hi] at hx; cases hx
     exact decide_eq_true hc
    ·rw [Bool.not_eq_true,decide_eq_false_iff_not]
     exact hI j _ hj (List.getElem?_eq_getElem (by omega))
   rw [this]
  ·have:Ye c.Tracks id=none:=by
    unfold Ye
    rw [List.findIdx?_eq_none_iff]
    intro x hx
    obtain ⟨i,hi⟩:=List.getElem?_of_mem hx
    exact decide_eq_false (hn i x hi)
   rw [this]
 obtain ⟨r,h1,rfl⟩:=this
 exact h1
/-! ### Sending -/
def Jr4 (s:Jk):Int:=if s.Out<1073741824 then w64 (s.Out+1) else s.Out
def Jmo (s:Jk) (m:Kc) (now:Int):Jk×Kc :=
 (Jk.mk s.Peer (Jr4 s) s.In s.Heard,Kc.mk m.Kind m.From s.Peer (Jr4 s) now m.Auth m.Report)
theorem Jtm (s:Jk) (m:Kc) (now:Int):Hs s m now=some (Jmo s m now):=by
 unfold Hs Jmo Jr4
 cases h:decide (s.Out<1073741824) with
 | true=>rw [if_pos (of_decide_eq_true h)]; rfl
 | false=>rw [if_neg (of_decide_eq_false h)]; rfl
theorem Jxq {α:Type} [Enc α] {L:List α} (h:L.length≤100000):slO L none (some ((L.length:Nat):Int)) (some ((L.length:Nat):Int))=some L:=by
 unfold slO
 simp [Jma]
theorem Jw2 (s:Jk) (m:Kc) (now:Int) (h1:m.Auth.Profile.length≤1000) (h2:m.Auth.Links.length≤1000):Bc s m now=some (Jmo s m now):=by
 have c1:Va m.Auth.Profile=some m.Auth.Profile:=by
  unfold Va
  rw [Jcs (by simp only [Qi,Enc.b]; omega),Option.bind_some,Jxq (by omega)]; rfl
 have c2:Vf m.Auth.Links=some m.Auth.Links:=by
  unfold Vf
  rw [Jcs (by simp only [Qi,Enc.b]; omega),Option.bind_some,Jxq (by omega)]; rfl
 unfold Bc Jmo Jr4
 simp only [c1,c2,Option.bind_some]
 cases h:decide (s.Out<1073741824) with
 | true=>rw [if_pos (of_decide_eq_true h)]; rfl
 | false=>rw [if_neg (of_decide_eq_false h)]; rfl
theorem Jsf {c:Jw} (h1:c.Tracks.length≤1000) (h2:c.Sessions.length≤1000) {i:Nat} (hi1:i<c.Tracks.length) (hi2:i<c.Sessions.length) (k:Jg) (s:Jk) :
  Df c (i:Int) k s=some ⟨c.Tracks.set i k,c.Sessions.set i s⟩:=by
 unfold Df
 rw [Jcs (by simp only [Qi,Enc.b]; omega),Option.bind_some,Jcs (by simp only [Qi,Enc.b]; omega),Option.bind_some]
 have n1:(((c.Tracks:List Jg).map cellsOf).length)=c.Tracks.length:=List.length_map _
 have n2:(((c.Sessions:List Jk).map cellsOf).length)=c.Sessions.length:=List.length_map _
 rw [Jt1 0 (by rw [n1]; exact hi1),Option.bind_some,Js5 n1.symm,Nat.zero_add,List.getElem?_eq_getElem hi1,Option.bind_some,Jt1 0 (by rw [n2]; exact hi2),Option.bind_some,Js5 n2.symm,Nat.zero_add,List.getElem?_eq_getElem hi2,Option.bind_some]
theorem Jqy : Ee=some true:=by kernel_rfl
/-! ### Stop -/
def msg0 : Kc:=Kc.mk 0 0 0 0 0 (Ks.mk 0 0 [] []) (Uh.mk 0 0 0 0 false)
def msgS : Kc:=Kc.mk 4 0 0 0 0 (Ks.mk 0 0 [] []) (Uh.mk 0 0 0 0 false)
def Jqe (c:Jw) (n:Nat):Jk:=(c.Sessions[n]?).getD ⟨0,0,0,0⟩
theorem Jd3 {c:Jw} {n:Nat} (h:n<c.Sessions.length):c.Sessions[n]? = some (Jqe c n):=by
 unfold Jqe; rw [List.getElem?_eq_getElem h]; rfl
def Jc8 (c:Jw) (id now:Int):Jw×Kc×Int :=
 if c.Tracks.length=c.Sessions.length then (match Ye c.Tracks id with
  | none=>(⟨[],[]⟩,msg0,9)
  | some n=>(⟨c.Tracks,c.Sessions.set n (Jmo (Jqe c n) msgS now).1⟩,(Jmo (Jqe c n) msgS now).2,0)) else (⟨[],[]⟩,msg0,1)
theorem Jqp {α:Type} {L:List α} {i:Nat} {x:α} (h:L[i]? = some x):L.set i x=L:=by
 apply List.ext_getElem?
 intro j
 by_cases e:j=i
 ·subst e; rw [List.getElem?_set_self (Jhf h),h]
 ·rw [List.getElem?_set_ne (fun q=>e q.symm)]
theorem Jym {α:Type} {L:List α} {i:Nat} {x:α} (h:i<L.length):Vq (L.set i x) L.length i=some x:=by
 rw [Js5 (List.length_set ..),List.getElem?_set_self h]
theorem Jwo {c:Jw} (h:Jea c) (id now:Int):Ft c id now=some (Jc8 c id now):=by
 have:Is (Ft c id now) fun r=>r=Jc8 c id now:=by
  unfold Ft Yy Jc8
  rw [Option.bind_some]
  refine Is.ifn (p:=c.Tracks.length=c.Sessions.length) (by rw [decide_eq_true_iff]; omega) (fun hn=>Is.val (by rw [if_neg hn]; rfl)) fun hl=>?_
  rw [if_pos hl]
  obtain ⟨m,h1,hm⟩:=Jk3 h.tr
  rw [h1,Option.bind_some]
  simp only [hm]
  cases htr:Ye c.Tracks id with
  | none=>exact Is.val rfl
  | some n =>
   have hn:=Jdx htr
   simp only [Option.map_some,Option.isSome_some,Bool.not_true,cond_false,Option.getD_some]
   refine Is.bind (φ:=fun x=>x=(c.Tracks,c.Tracks.length,c.Sessions)) ?_ fun x hx=>?_
   ·refine Is.to (Jtw h.tr) ?_
    refine Is.onInl (θ:=fun o=>o=.inl c.Tracks) (Is.eq (Jr7 h.tr h.each)) (fun v hv=>?_) (fun b hb=>by cases hb)
    cases hv
    rw [Jwy h.se,Option.bind_some]
    exact Is.val (by simp)
   ·subst hx
    have n2:(((c.Sessions:List Jk).map cellsOf).length)=c.Sessions.length:=List.length_map _
    simp only [n2]
    have hld:Vq c.Sessions c.Sessions.length n=some (Jqe c n):=by rw [Js5 rfl]; exact Jd3 (by omega)
    rw [Jt1 0 (show n<c.Sessions.length by omega),Option.bind_some,Nat.zero_add,hld,Option.bind_some,Jw2 _ _ _ (by simp) (by simp),Option.bind_some,Option.bind_some,hld,Option.bind_some]
    exact Is.val rfl
 obtain ⟨r,h1,rfl⟩:=this
 exact h1
theorem Jrd {c:Jw} (h:Jea c) (id now:Int):Dh c id now=some (Jc8 c id now):=by
 have:Is (Dh c id now) fun r=>r=Jc8 c id now:=by
  unfold Dh Yx Jc8
  rw [Option.bind_some]
  refine Is.ifn (p:=c.Tracks.length=c.Sessions.length) (by rw [decide_eq_true_iff]; omega) (fun hn=>Is.val (by rw [if_neg hn]; rfl)) fun hl=>?_
  rw [if_pos hl,Jo0 h.tr,Option.bind_some]
  cases htr:Ye c.Tracks id with
  | none=>exact Is.val rfl
  | some n =>
   have hn:=Jdx htr
   simp only
   rw [decide_eq_false (by omega),cond_false]
   refine Is.at (Jd3 (by omega)) ?_
   rw [Jtm,Option.bind_some]
   have hx:=List.getElem?_eq_getElem hn
   refine Is.at hx ?_
   rw [Jsf h.tr h.se hn (by omega),Option.bind_some,Jqp hx]
   exact Is.val rfl
 obtain ⟨r,h1,rfl⟩:=this
 exact h1
/-! ### Shorten -/
def Jor (t:Kz) (k:Jg) (keep:Int):Option Jg :=
 if 0≤keep∧keep<(k.Routes.length:Nat)∧keep<(k.Ends.length:Nat) then (match k.Routes[keep.toNat]?,k.Ends[keep.toNat]? with
  | some r,some e=>if 0≤r∧r<(t.Routes.length:Nat) then (t.Routes[r.toNat]?).map fun x=>Jg.mk k.Id k.Origin k.End k.At k.Steps k.Routes k.Starts k.Ends k.Done k.Min k.Sent k.Accepted (w64 (e - x.Length)) (w64 (k.Sent+1)) else none
  | _,_=>none) else none
def Jdp (t:Kz) (c:Jw) (id keep:Int):Jw×Int :=
 if c.Tracks.length=c.Sessions.length then (match Ye c.Tracks id with
  | none=>(⟨[],[]⟩,9)
  | some n=>(match c.Tracks[n]? with
   | none=>(⟨[],[]⟩,9)
   | some k=>if k.CutSeq=0 then (match Jor t k keep with
    | none=>(⟨[],[]⟩,1)
    | some k'=>(⟨c.Tracks.set n k',c.Sessions⟩,0)) else (⟨[],[]⟩,11))) else (⟨[],[]⟩,1)
theorem Jrp {c:Jw} (h:Jea c) (t:Kz) (id keep:Int):Zs t c id keep=some (Jdp t c id keep):=by
 have:Is (Zs t c id keep) fun r=>r=Jdp t c id keep:=by
  unfold Zs Yy Jdp
  rw [Option.bind_some]
  refine Is.ifn (p:=c.Tracks.length=c.Sessions.length) (by rw [decide_eq_true_iff]; omega) (fun hn=>Is.val (by rw [if_neg hn])) fun hl=>?_
  rw [if_pos hl]
  obtain ⟨m,h1,hm⟩:=Jk3 h.tr
  rw [h1,Option.bind_some]
  simp only [hm]
  cases htr:Ye c.Tracks id with
  | none=>exact Is.val rfl
  | some n =>
   have hn:=Jdx htr
   have hx:=List.getElem?_eq_getElem hn
   generalize c.Tracks[n]=k at hx
   simp only [Option.map_some,Option.isSome_some,Bool.not_true,cond_false,Option.getD_some,hx]
   refine Is.bind (φ:=fun x=>x=(c.Tracks,c.Tracks.length,c.Sessions)) ?_ fun x hx2=>?_
   ·refine Is.to (Jtw h.tr) ?_
    refine Is.onInl (θ:=fun o=>o=.inl c.Tracks) (Is.eq (Jr7 h.tr h.each)) (fun v hv=>?_) (fun b hb=>by cases hb)
    cases hv
    rw [Jwf h.se,Option.bind_some]
    exact Is.val (by simp)
   ·subst hx2
    have hld:Vq c.Tracks c.Tracks.length n=some k:=by rw [Js5 rfl]; exact hx
    simp only [Jt1 0 hn,Option.bind_some,Nat.zero_add,hld,Jym hn]
    refine Is.ifn Ve (fun hc=>Is.val (by rw [if_neg hc])) fun hc=>?_
    rw [if_pos hc]
    refine Is.bind (Is.or Ve fun _=>Is.val Ve) fun b1 hb1=>?_
    refine Is.bind (Is.or hb1 fun _=>Is.val Ve) fun b2 hb2=>?_
    unfold Jor
    refine Is.ite hb2 (fun hp=>Is.val (by rw [if_neg (by omega)])) fun hp=>?_
    rw [if_pos (by omega)]
    refine (Is.ix (show 0≤keep by omega) (show keep<(k.Routes.length:Nat) by omega)).bind fun r hr=>?_
    rw [hr]
    refine Is.bind (Is.or Ve fun _=>Is.val Ve) fun b3 hb3=>?_
    have he:k.Ends[keep.toNat]? = some (k.Ends[keep.toNat]'(by omega)):=List.getElem?_eq_getElem _
    rw [he]
    refine Is.ite hb3 (fun hp3=>Is.val (by simp only; rw [if_neg (by omega)])) fun hp3=>?_
    simp only
    rw [if_pos (by omega)]
    refine (Is.ix (show 0≤keep by omega) (show keep<(k.Ends.length:Nat) by omega)).bind fun e he2=>?_
    rw [he] at he2; cases he2
    refine (Is.ix (show 0≤r by omega) (show r<(t.Routes.length:Nat) by omega)).bind fun y hy=>?_
    rw [hy]
    refine Is.val ?_
    simp only [Option.map_some,List.set_set]
 obtain ⟨r,h1,rfl⟩:=this
 exact h1
theorem Jmf {c:Jw} (h:Jea c) (t:Kz) (id keep:Int):Zk t c id keep=some (Jdp t c id keep):=by
 have:Is (Zk t c id keep) fun r=>r=Jdp t c id keep:=by
  unfold Zk Yx Jdp
  rw [Option.bind_some]
  refine Is.ifn (p:=c.Tracks.length=c.Sessions.length) (by rw [decide_eq_true_iff]; omega) (fun hn=>Is.val (by rw [if_neg hn])) fun hl=>?_
  rw [if_pos hl,Jo0 h.tr,Option.bind_some]
  cases htr:Ye c.Tracks id with
  | none=>exact Is.val rfl
  | some n =>
   have hn:=Jdx htr
   have hx:=List.getElem?_eq_getElem hn
   generalize c.Tracks[n]=k at hx
   simp only [hx]
   rw [decide_eq_false (by omega),cond_false]
   refine Is.at hx ?_
   refine Is.ifn Ve (fun hc=>Is.val (by rw [if_neg hc])) fun hc=>?_
   rw [if_pos hc]
   refine Is.bind (Is.or Ve fun _=>Is.val Ve) fun b1 hb1=>?_
   refine Is.bind (Is.or hb1 fun _=>Is.val Ve) fun b2 hb2=>?_
   refine Is.bind (φ:=fun b=>b=true↔(b2=true∨∃ r,k.Routes[keep.toNat]? = some r∧r<0)) ?_ fun b3 hb3=>?_
   ·cases b2 with
    | true=>exact Is.val (iff_of_true rfl (.inl rfl))
    | false =>
     have hp:¬ ((keep<0∨((k.Routes.length:Nat):Int)≤keep)∨((k.Ends.length:Nat):Int)≤keep):=fun q=>Bool.false_ne_true (hb2.2 q)
     rw [cond_false]
     refine (Is.ix (show 0≤keep by omega) (show keep<(k.Routes.length:Nat) by omega)).bind fun r hr=>Is.val ?_
     rw [decide_eq_true_iff,hr]
     exact ⟨fun q=>.inr ⟨_,rfl,q⟩,fun q=>q.elim (fun z=>by cases z) fun ⟨r',e,q⟩=>by cases e; exact q⟩
   refine Is.bind (φ:=fun b=>b=true↔(b3=true∨∃ r,k.Routes[keep.toNat]? = some r∧(t.Routes.length:Nat)≤r)) ?_ fun b4 hb4=>?_
   ·cases b3 with
    | true=>exact Is.val (iff_of_true rfl (.inl rfl))
    | false =>
     have hp2:¬ b2=true:=fun q=>Bool.false_ne_true (hb3.2 (.inl q))
     have hp:¬ ((keep<0∨((k.Routes.length:Nat):Int)≤keep)∨((k.Ends.length:Nat):Int)≤keep):=fun q=>hp2 (hb2.2 q)
     rw [cond_false]
     refine (Is.ix (show 0≤keep by omega) (show keep<(k.Routes.length:Nat) by omega)).bind fun r hr=>Is.val ?_
     rw [decide_eq_true_iff,hr]
     exact ⟨fun q=>.inr ⟨_,rfl,q⟩,fun q=>q.elim (fun z=>by cases z) fun ⟨r',e,q⟩=>by cases e; exact q⟩
   unfold Jor
   by_cases hk:0≤keep∧keep<(k.Routes.length:Nat)∧keep<(k.Ends.length:Nat)
   ·rw [if_pos hk]
    obtain ⟨r,hr1,hr⟩:=Is.ix (L:=k.Routes) hk.1 hk.2.1
    obtain ⟨e,he1,he⟩:=Is.ix (L:=k.Ends) hk.1 hk.2.2
    rw [hr,he]
    simp only
    have hb2f:¬ b2=true:=by rw [hb2]; omega
    by_cases hrr:0≤r∧r<(t.Routes.length:Nat)
    ·have hf:b4=false:=by
      rw [← Bool.not_eq_true,hb4,hb3,hr]
      rintro ((q|⟨r',e',q⟩)|⟨r',e',q⟩)
      ·exact hb2f q
      ·cases e'; omega
      ·cases e'; omega
     rw [hf,cond_false,if_pos hrr,he1,Option.bind_some,hr1,Option.bind_some]
     refine (Is.ix hrr.1 hrr.2).bind fun y hy=>?_
     rw [hy]
     refine Is.at (Jd3 (by omega)) ?_
     rw [Jsf h.tr h.se hn (by omega),Option.bind_some,Jqp (Jd3 (by omega))]
     exact Is.val rfl
    ·have hf:b4=true:=by
      rw [hb4,hb3,hr]
      by_cases q:r<0
      ·exact .inl (.inr ⟨_,rfl,q⟩)
      ·exact .inr ⟨_,rfl,by omega⟩
     rw [hf,cond_true,if_neg hrr]
     exact Is.val rfl
   ·have hf:b4=true:=hb4.2 (.inl (hb3.2 (.inl (hb2.2 (by omega)))))
    rw [hf,cond_true,if_neg hk]
    exact Is.val rfl
 obtain ⟨r,h1,rfl⟩:=this
 exact h1
/-! ### Equal centers -/
theorem Jz4 (x y:Jf):Sr x y=true↔x=y:=by cases x; cases y; simp [Sr]
theorem Jzi (x:Jk):Iz x x=true:=by simp [Iz]
theorem Jzh (x:Uh):Fg x x=true:=by simp [Fg]
theorem Jlt {L:List Jf} (h:L.length≤1000):Zo L L=some true:=by
 have:Is (Zo L L) fun r=>r=true↔L=L:=Ju3 Jz4 (by omega) fun _=>rfl
 obtain ⟨r,h1,h2⟩:=this
 rw [h1,h2.2 rfl]
theorem Ln {L:List Int} (h:L.length≤1000):Vv L L=some true:=by
 have:Is (Vv L L) fun r=>r=true↔L=L:=Ju3 (eqf:=fun x y=>decide (x=y)) (fun _ _=>Ve) (by omega) fun _=>rfl
 obtain ⟨r,h1,h2⟩:=this
 rw [h1,h2.2 rfl]
theorem Jpa {k:Jg} (h:Jxf k):Hw k k=some true:=by
 unfold Hw
 simp only [decide_true,Bool.not_true,Bool.or_false,cond_false,Jlt h.steps,Ln h.routes,Ln h.starts,Ln h.ends,Ln h.done,Option.bind_some,cond_true]
theorem Jib {c:Jw} (h:Jea c):Bq c c=some true:=by
 have:Is (Bq c c) fun b=>b=true:=by
  unfold Bq
  simp only [decide_true,Bool.not_true,cond_false,Option.bind_some]
  have h1:=h.tr
  have h2:=h.se
  refine Is.all (L:=c.Tracks) (fun _ _=>True) () (by omega) (fun i x hx hi _=>?_) (by simp [Hu]) (fun _=>?_)
  ·unfold Hu
   refine Is.inb hi (Is.at hx (Is.at hx ?_))
   rw [Jpa (h.each x (List.mem_of_getElem? hx))]
   exact Is.val ⟨rfl,trivial⟩
  ·refine Is.all (L:=c.Sessions) (fun _ _=>True) () (by omega) (fun i x hx hi _=>?_) (by simp [Hl]) (fun _=>Is.val rfl)
   unfold Hl
   refine Is.inb hi (Is.at hx (Is.at hx ?_))
   rw [Jzi]
   exact Is.val ⟨rfl,trivial⟩
 obtain ⟨b,h1,rfl⟩:=this
 exact h1
theorem Jff (k f t q n:Int):Di (Kc.mk k f t q n (Ks.mk 0 0 [] []) (Uh.mk 0 0 0 0 false)) (Kc.mk k f t q n (Ks.mk 0 0 [] []) (Uh.mk 0 0 0 0 false))=some true:=by
 have e:Zf (Ks.mk 0 0 [] []) (Ks.mk 0 0 [] [])=some true:=by kernel_rfl
 unfold Di
 simp only [decide_true,Bool.and_self,cond_true,e,Option.bind_some,Jzh]
/-! ### The law RbcStops -/
theorem Jve {c:Jw} (h1:c.Tracks.length≤1048576):Is (Mf c) fun b=>b=true→Jea c∧c.Tracks.length≤10∧c.Sessions.length≤10∧∀ k∈c.Tracks,k.Steps.length≤100∧k.Routes.length≤60∧k.Starts.length≤60∧k.Ends.length≤60∧k.Done.length≤60:=by
 unfold Mf
 refine Is.all (L:=c.Tracks) (fun _ k=>k.Steps.length≤100∧k.Routes.length≤60∧k.Starts.length≤60∧k.Ends.length≤60∧k.Done.length≤60) () (by omega) (fun i x hx hi _=>?_) (by simp [Lq]) (fun hn=>?_)
 ·unfold Lq
  refine Is.inb hi (Is.at hx ?_)
  refine Is.bind (Is.or Ve fun _=>Is.val Ve) fun b1 hb1=>?_
  refine Is.bind (Is.or hb1 fun _=>Is.val Ve) fun b2 hb2=>?_
  refine Is.bind (Is.or hb2 fun _=>Is.val Ve) fun b3 hb3=>?_
  refine Is.bind (Is.or hb3 fun _=>Is.val Ve) fun b4 hb4=>?_
  refine Is.ite hb4 (fun _=>Is.val fun q=>by cases q) fun hp=>Is.val ⟨rfl,by omega⟩
 ·have hall:∀ k∈c.Tracks,k.Steps.length≤100∧k.Routes.length≤60∧k.Starts.length≤60∧k.Ends.length≤60∧k.Done.length≤60:=Jix.1 hn
  refine Is.bind (Is.and Ve fun _=>Is.val Ve) fun b hb=>Is.val fun q=>?_
  have hb:=hb.1 q
  exact ⟨⟨by omega,by omega,fun k hk=>by have:=hall k hk; exact ⟨by omega,by omega,by omega,by omega,by omega⟩⟩,by omega,by omega,hall⟩
theorem Jre {t:Kz} (s:Qf) (h:t.Routes.length≤1048576):Is (Er t s) fun b=>b=true→t.Routes.length≤50∧s.Routes.length≤50∧∀ r∈t.Routes,r.Sections.length≤30∧r.Path.length≤30:=by
 unfold Er
 refine Is.all (L:=t.Routes) (fun _ r=>r.Sections.length≤30∧r.Path.length≤30) () (by omega) (fun i x hx hi _=>?_) (by simp [Ff]) (fun hn=>?_)
 ·unfold Ff
  refine Is.inb hi (Is.at hx ?_)
  refine Is.bind (Is.or Ve fun _=>Is.val Ve) fun b1 hb1=>?_
  refine Is.bind (Is.or hb1 fun _=>Is.val Ve) fun b2 hb2=>?_
  refine Is.bind (Is.or hb2 fun _=>Is.val Ve) fun b3 hb3=>?_
  refine Is.bind (Is.or hb3 fun _=>Is.val Ve) fun b4 hb4=>?_
  refine Is.bind (Is.or hb4 fun _=>Is.val Ve) fun b5 hb5=>?_
  refine Is.ite hb5 (fun _=>Is.val fun q=>by cases q) fun hp=>Is.val ⟨rfl,by omega⟩
 ·refine Is.bind (Is.and Ve fun _=>Is.val Ve) fun b1 hb1=>?_
  refine Is.bind (Is.and hb1 fun _=>Is.val Ve) fun b2 hb2=>?_
  refine Is.bind (Is.and hb2 fun _=>Is.val Ve) fun b3 hb3=>?_
  refine Is.bind (Is.and hb3 fun _=>Is.val Ve) fun b4 hb4=>Is.val fun q=>?_
  have:=hb4.1 q
  exact ⟨by omega,by omega,Jix.1 hn⟩
/-- A case whose lists are no longer than the bulk allows. -/
structure Jt7 (x:Qa):Prop where
 rt:x.Table.Routes.length≤1048576
 tr:x.Center.Tracks.length≤1048576
theorem Jrn {x:Qa} (h:Jt7 x):Is (Ep x) fun b=>b=true→(Jea x.Center∧x.Center.Tracks.length≤10∧x.Center.Sessions.length≤10∧∀ k∈x.Center.Tracks,k.Steps.length≤100∧k.Routes.length≤60∧k.Starts.length≤60∧k.Ends.length≤60∧k.Done.length≤60) ∧
  (x.Table.Routes.length≤50∧x.Inter.Routes.length≤50∧∀ r∈x.Table.Routes,r.Sections.length≤30∧r.Path.length≤30)∧x.Slow.length≤20∧x.Trains.length≤10:=by
 unfold Ep
 refine Is.bind (φ:=fun _=>True) ?_ fun r1 _=>?_
 ·unfold Lp
  refine Is.bind (φ:=fun _=>True) (Is.cond (fun _=>Is.val trivial) fun _=>Is.val trivial) fun b1 _=>?_
  refine Is.bind (φ:=fun _=>True) (Is.cond (fun _=>Is.val trivial) fun _=>Is.val trivial) fun b2 _=>?_
  refine Is.bind (φ:=fun _=>True) (Is.cond (fun _=>Is.val trivial) fun _=>Is.val trivial) fun b3 _=>?_
  refine Is.bind (φ:=fun _=>True) (Is.cond (fun _=>Is.val trivial) fun _=>Is.val trivial) fun b4 _=>Is.val trivial
 simp only [Jyr]
 refine Is.bind (φ:=fun b=>b=true→(x.Table.Routes.length≤50∧x.Inter.Routes.length≤50∧∀ r∈x.Table.Routes,r.Sections.length≤30∧r.Path.length≤30)) (Is.cond (fun _=>Jre _ h.rt) fun _=>Is.val fun q=>by cases q) fun b2 h2=>?_
 refine Is.bind (φ:=fun b=>b=true→b2=true∧x.Slow.length≤20) (Is.cond (fun q=>Is.val fun e=>⟨q,by have:=of_decide_eq_true e; omega⟩) fun _=>Is.val fun q=>by cases q) fun b4 h4=>?_
 refine Is.bind (φ:=fun b=>b=true→b4=true∧x.Trains.length≤10) (Is.cond (fun q=>Is.val fun e=>⟨q,by have:=of_decide_eq_true e; omega⟩) fun _=>Is.val fun q=>by cases q) fun b5 h5=>?_
 refine Is.cond (fun q=>(Jve h.tr).mono fun c hc e=>?_) fun _=>Is.val fun q=>by cases q
 obtain ⟨q5,q6⟩:=h5 q
 obtain ⟨q3,q4⟩:=h4 q5
 exact ⟨hc e,h2 q3,q4,q6⟩
theorem Jea.set {c:Jw} (h:Jea c) {n:Nat} {k:Jg} (hk:Jxf k) (S:List Jk) (hS:S.length=c.Sessions.length):Jea ⟨c.Tracks.set n k,S⟩ :=
 ⟨by show (c.Tracks.set n k).length≤1000; rw [List.length_set]; exact h.tr,by show S.length≤1000; rw [hS]; exact h.se,fun y hy=>(List.mem_or_eq_of_mem_set hy).elim (h.each y) fun e=>e▸hk⟩
theorem Jkl : Jea ⟨[],[]⟩:=⟨Nat.zero_le _,Nat.zero_le _,fun k hk=>by cases hk⟩
theorem Js8 {c:Jw} (h:Jea c) (id now:Int):Jea (Jc8 c id now).1:=by
 unfold Jc8
 split
 ·split
  ·exact Jkl
  ·exact ⟨h.tr,by show (c.Sessions.set _ _).length≤1000; rw [List.length_set]; exact h.se,h.each⟩
 ·exact Jkl
theorem Jtn (c:Jw) (id now:Int):Di (Jc8 c id now).2.1 (Jc8 c id now).2.1=some true:=by
 unfold Jc8
 split
 ·split
  ·exact Jff _ _ _ _ _
  ·exact Jff _ _ _ _ _
 ·exact Jff _ _ _ _ _
theorem Jrb {c:Jw} (h:Jea c) (t:Kz) (id keep:Int):Jea (Jdp t c id keep).1:=by
 unfold Jdp
 split
 ·split
  ·exact Jkl
  ·split
   ·exact Jkl
   ·rename_i n _ _ k hk
    have hf:=h.each k (List.mem_of_getElem? hk)
    split
    ·split
     ·exact Jkl
     ·rename_i k' hk'
      refine Jea.set h ?_ _ rfl
      unfold Jor at hk'
      split at hk'
      ·split at hk'
       ·split at hk'
        ·obtain ⟨y,_,rfl⟩:=Option.map_eq_some_iff.1 hk'
         exact ⟨hf.steps,hf.routes,hf.starts,hf.ends,hf.done⟩
        ·cases hk'
       ·cases hk'
      ·cases hk'
    ·exact Jkl
 ·exact Jkl
theorem Jnv {x:Qa} (h:Jt7 x) (train keep now:Int):Yu x train keep now=some true:=by
 have:Is (Yu x train keep now) fun b=>b=true:=by
  unfold Yu
  rw [Jqy]
  refine (Jrn h).bind fun b hb=>?_
  cases b with
  | false=>exact Is.val rfl
  | true =>
   have hF:=(hb rfl).1.1
   simp only [Bool.not_true,cond_false]
   rw [Jwo hF,Option.bind_some,Jrd hF,Option.bind_some,Jrp hF,Option.bind_some,Jmf hF,Option.bind_some,Jib (Js8 hF _ _),Option.bind_some,Jtn,Jib (Jrb hF _ _ _)]
   simp only [Option.bind_some,cond_true,decide_true,Bool.and_self]
   exact Is.val rfl
 obtain ⟨b,h1,rfl⟩:=this
 exact h1
end PM
