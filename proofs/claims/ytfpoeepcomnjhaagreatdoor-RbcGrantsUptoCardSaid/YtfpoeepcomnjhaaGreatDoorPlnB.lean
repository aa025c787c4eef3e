/-
 Plain laws, joined: the second part of PlnA.
-/
import Derived.Test.YtfpoeepcomnjhaaGreatDoorPlnA
namespace PM
open Go Go.RowKit
theorem Jvr{l:Ja}(hO:OkL l){way:List Jb}(hv:Vo l way){o:Int}(ho:-1073741824<=o/\o<=1073741824):Tc l way o=some (ofP l o way):=by
 suffices Is (Tc l way o) fun r=>r=ofP l o way by obtain ⟨r,h,rfl⟩:=this; exact h
 unfold Tc;have hl:=hv.2.1;rw [decide_eq_false (show ¬ o < -1073741824 by omega),decide_eq_false (show ¬ 1073741824<o by omega),decide_eq_false (show ¬ (128:Int)<((way.length:Nat):Int) by omega)];simp only [fC,cond_false,aA];refine Is.fold (L:=way) (mk:=fun i (m:Int×List Jc)=>(m.1,i,m.2)) (fun i m=>m.1=o+Uf l (way.take i)/\m.2=ofS l o (way.take i)) (o,[]) oG (by simp [Uf,ofS]) (fun i s m hs hi hI=>?_) (fun m hI=>?_)
 ·obtain ⟨B,p⟩:=m;obtain ⟨rfl,rfl⟩:=hI;obtain ⟨e,h1,h2,h3,h4,h5,h6⟩:=Jc0 hO hv hs;have hb:=Sz hO hv i oG;have hlen:=Jno l (way.take i) o;rw [aT] at hlen;unfold Jbb;refine Is.inb hi (Is.at hs ?_);have hh:=h3;simp only [Um,aI,decide_eq_true_eq] at hh;rw [decide_eq_false (show ¬ s.El<0 by omega),decide_eq_false (show ¬ ((l.Elements.length:Nat):Int)<=s.El by omega)];simp only [cond_false,aA,h1,Ob,h6,aX];have hg:=h5.2.2.1;refine Is.onInl (θ:=fun z=>z=.inl (Kc7 e s)) (Is.ite (Jns e s) (fun hf=>Is.val ?_) (fun hf=>Is.val ?_)) (fun v hv=>?_) (fun b hb=>by cases hb)
  ·unfold Kc7; rw [if_pos (show s.In=0\/(s.In=2/\e.Kind=3) from hf)]
  ·unfold Kc7; rw [if_neg (show ¬ (s.In=0\/(s.In=2/\e.Kind=3)) from hf),Qt oG oG,Int.zero_sub]
  cases hv;refine Is.onInl (θ:=fun z=>z=.inl (Kby e s)) (Is.ite (p:=e.Kind=2/\(s.In=2\/s.Out=2)) sG (fun hf=>Is.val ?_) (fun hf=>Is.val ?_)) (fun v hv=>?_) (fun b hb=>by cases hb)
  ·unfold Kby; rw [if_pos hf]
  ·unfold Kby; rw [if_neg hf]
  cases hv;have h52:=h5.2.1;refine Is.bind (Is.app ?_) fun M hM=>Is.val ⟨(o+Uf l (way.take (i+1)),ofS l o (way.take (i+1))), ?_,rfl,rfl⟩
  ·simp only [aE,aF,Js,Enc.b]; omega
  ·rw [hM,Qw hs,Jpv,Yl,Qt oG oG];simp only [Jny,h2,Kgs,Uf,h4,eG,eM]
 ·obtain ⟨B,p⟩:=m;obtain ⟨rfl,rfl⟩:=hI;unfold Jbb;refine Is.oub (Is.val ?_);rw [aR];have hlen:=Jno l way o;obtain ⟨b,hb,hbi⟩:=Ij (p:=ofS l o way) oG;show Is ((Wo (ofS l o way)).bind _) _;rw [hb];refine Is.ifn hbi (fun hc=>Is.val ?_) (fun hc=>Is.val ?_)
  ·unfold ofP; rw [if_neg hc]
  ·unfold ofP; rw [if_pos hc]
theorem Jjk(p:List Jc)(f t:Int):(Ru p f t).length<=p.length:=by
 unfold Ru;rw [aV];exact bZ _ _
theorem Ja7{p:List Jc}(h:Lz p)(f t:Int):Bi p f t=some (Ru p f t):=by
 suffices Is (Bi p f t) fun r=>r=Ru p f t by obtain ⟨r,h,rfl⟩:=this; exact h
 unfold Bi;have hl:=h.1;obtain ⟨b,hb,hbi⟩:=Ij (p:=p) oG;refine Is.fold (L:=p) (mk:=fun i (m:List Jc)=>(i,m)) (fun i m=>m=Ru (p.take i) f t) [] oG rfl (fun i x m hx hi hI=>?_) (fun m hI=>?_)
 ·subst hI;have hlen:=Jjk (p.take i) f t;rw [aT] at hlen;unfold Tt;refine Is.inb hi ?_;refine Is.onInl (θ:=fun o=>o=.inl (Ru (p.take (i+1)) f t)) (Is.at hx ?_) (fun v hv=>Is.val ⟨Ru (p.take (i+1)) f t,by cases hv; rfl,rfl⟩) (fun b hb=>by cases hb);have ht:Ru (p.take (i+1)) f t=Ru (p.take i) f t++(if max x.From f<min x.To t then [Jcs f t x] else []):=by
   rw [Qw hx,<- Xr];unfold Ru;rw [cS,cL]
  rw [hb,hbi.2 h];simp only [aA,eZ];refine Is.ite (p:=max x.From f<min x.To t) Km (fun hb=>?_) (fun hb=>Is.val ?_)
  ·rw [if_pos hb] at ht;refine Is.bind (Is.app ?_) fun M hM=>Is.val ?_
   ·simp only [aE,aF,Js,Enc.b]; omega
   ·rw [hM,ht]; rfl
  ·rw [ht,if_neg hb,bE]
 ·subst hI;unfold Tt;refine Is.oub (Is.val ?_);rw [aR];exact Is.val rfl
theorem Jo5{p:List Jc}(h:Lz p)(f t:Int):Tp p f t=some (Ru p f t):=Ja7 h f t
theorem Kea{s:Jc}(h:Jc6 s):Lz [s]:=⟨by simp,fun i x hx=>by
 cases i with
 | zero=>simp at hx; subst hx; exact ⟨h,fun y h0=>by omega⟩
 | succ i=>simp at hx⟩
theorem Jrf{α:Type}{L:List α}{i:Nat}{x:α}(h:L[i]? = some x):(L.take (i+1)).drop i=[x]:=by
 have:=Qs h;rw [Qw h,dG (by rw [aT]; omega),cZ (by rw [aT]; omega)]; rfl
theorem Jn8{p:List Jc}(hp:Lz p)(f t sp:Int):Gs p f t sp=some (Lim p f t sp):=by
 suffices Is (Gs p f t sp) fun r=>r=Lim p f t sp by obtain ⟨r,h,rfl⟩:=this; exact h
 unfold Gs;have hpl:=hp.1;obtain ⟨b,hb,hbi⟩:=Ij (p:=p) oG;rw [hb,hbi.2 hp];simp only [aA,aX,Bool.false_or];refine Is.ite (p:=sp<1) Km (fun hc=>Is.val ?_) (fun hc=>?_)
 ·unfold Lim; rw [if_neg fun q=>by omega]
 refine Is.fold (L:=p) (mk:=fun i (m:List Jc)=>(i,m)) (fun i m=>m=Xw (p.take i) f t sp) [] oG rfl (fun i s m hs hi hI=>?_) (fun m hI=>?_)
 ·subst hI;unfold Nm;have hlen:=(Jn7 f t sp (p.take i)).2;rw [aT] at hlen;have hok:=hp.ok hs;have h1:=Kea hok;have hsn:Xw (p.take (i+1)) f t sp=Xw (p.take i) f t sp++Jla f t sp s:=by rw [Qw hs,Js0]
  refine Is.inb hi ?_;refine Is.onInl (θ:=fun o=>o=.inl (Xw (p.take (i+1)) f t sp)) ?_ (fun v hv=>Is.val ⟨Xw (p.take (i+1)) f t sp,by cases hv; rfl,rfl⟩) (fun b hb=>by cases hb);rw [Zi oG,Kfh oG oG,Jrf hs];simp only [aA];rw [Jo5 h1,Xr];have hsl:=hsn;unfold Jla at hsl
  by_cases hq:max s.From f<min s.To t
  ·rw [if_pos hq] at hsl ⊢;have e1:Wd 0 (([Jcs f t s].map cellsOf).length) 0=some 0:=by simp [Wd]
   have e2:Vd [Jcs f t s] (([Jcs f t s].map cellsOf).length) 0=some (Jcs f t s):=by simp [Vd]
   have e3:decide (((([Jcs f t s].map cellsOf).length:Nat):Int)=0)=false:=by simp
   simp only [aA,e1,e2,e3,cond_false];rw [Ja7 h1,Ja7 h1];simp only [aA,List.set_cons_zero];have k1:=Jjk [s] (-1073741824) f;have k2:=Jjk [s] t 1073741824;simp only [aE,aF] at k1 k2;refine Is.bind (Is.app ?_) fun M1 hM1=>Is.bind (Is.app ?_) fun M2 hM2=>Is.bind (Is.app ?_) fun M3 hM3=>Is.val ?_
   ·simp only [Js,Enc.b]; omega
   ·rw [hM1]; simp only [aH,aE,aF,Js,Enc.b]; omega
   ·rw [hM2,hM1]; simp only [aH,aE,aF,Js,Enc.b]; omega
   ·rw [hM3,hM2,hM1,hsl]; simp [Jcs]
  ·rw [if_neg hq] at hsl ⊢;simp only [aA,List.map_nil,aF,Int.natCast_zero,decide_true,cond_true,Vc hs];refine Is.bind (Is.app ?_) fun M hM=>Is.val ?_
   ·simp only [aE,aF,Js,Enc.b]; omega
   ·rw [hM,hsl]
 ·subst hI;unfold Nm;refine Is.oub (Is.val ?_);rw [aR];refine Is.ite (p:=128<(Xw p f t sp).length) (by rw [decide_eq_true_iff]; omega) (fun hq=>Is.val ?_) (fun hq=>Is.val ?_)
  ·unfold Lim; rw [if_neg fun q=>by omega]
  ·unfold Lim; rw [if_pos ⟨hp,by omega,by omega⟩]
theorem Jo6(l:Ja)(r:Jj):Is (Ms l r) fun c=>(c=0/\Jbu l r)\/(c=1/\¬ Jbu l r):=by
 unfold Ms;refine Is.bind (φ:=fun b=>b=true↔¬ ((1<=r.Id/\r.Id<=1073741824)/\Um l r.El=true)) ?_ fun b hb=>?_
 ·refine (Is.or (p:=¬ (1<=r.Id/\r.Id<=1073741824)\/r.El<0) (q:=((l.Elements.length:Nat):Int)<=r.El) (by simp; omega) fun _=>Is.dec Iff.rfl).iff ?_;simp only [Um,aI,decide_eq_true_eq]; omega
 refine Is.bind (φ:=fun b=>b=true↔¬ (((1<=r.Id/\r.Id<=1073741824)/\Um l r.El=true)/\0<=r.From/\r.From<r.To/\r.To<=Jdq l r.El)) ?_ fun b hb=>Is.ite (p:=¬ Jbu l r) (by
   unfold Jbu;rw [bP,bP,hb,decide_eq_true_iff,decide_eq_true_iff]
   by_cases q:Um l r.El=true <;> simp only [q] <;> simp <;> omega) (fun h=>Is.val (.inr ⟨rfl,h⟩)) fun h=>Is.val (.inl ⟨rfl,bA.1 h⟩)
 ·refine (Is.or (p:=¬ ((1<=r.Id/\r.Id<=1073741824)/\Um l r.El=true)\/r.From<0\/r.To<=r.From) (q:=Jdq l r.El<r.To) (by
   rw [bP,bP,hb,decide_eq_true_iff,decide_eq_true_iff,or_assoc]) fun hn=>?_).iff ?_
  ·obtain ⟨h2⟩:Um l r.El=true/\True:=⟨(bA.1 fun q=>hn (.inl q)).2,trivial⟩
   obtain ⟨e,e1,e2⟩:=Vj h2;rw [e1,Ju2 e2]; exact Is.dec Iff.rfl
  ·by_cases q:(1<=r.Id/\r.Id<=1073741824)/\Um l r.El=true <;> simp only [q] <;> simp <;> omega
theorem Jrj{l:Ja}{s:Jb}{e:Jt}(h1:ixO l.Elements s.El=some e)(he:0<=e.Length/\e.Length<=1000000){B:Int}(hB:-2147483648<=B/\B<=2147483648){r:Jj}(hr:0<=r.From/\r.From<r.To/\r.To<=e.Length) :
  Rn l s B r=some (Je5 e s B r):=by
 unfold Rn Je5;rw [h1];simp only [aA]
 by_cases hf:Kb1 e s
 ·rw [if_pos hf,(Jns e s).2 hf,cond_true,Qt oG oG,Qt oG oG]
 ·rw [if_neg hf,(Juo (Jns e s)).2 hf,cond_false,Qt (n:=B+e.Length) oG oG,Qt oG oG,Qt oG oG]
theorem Jp9{l:Ja}(hO:OkL l){way:List Jb}(hv:Vo l way){o:Int}(ho:-1073741824<=o/\o<=1073741824){p:List Jc}(hp:Lz p)(r:Jj) :
  Jp (Dd way l r) (p,o,0)=some (.inl (Jce l o way r p)):=by
 suffices Is (Jp (Dd way l r) (p,o,0)) fun z=>z=.inl (Jce l o way r p) by obtain ⟨r,h,rfl⟩:=this; exact h
 have hl:=hv.2.1;refine Is.loop (mk:=fun (i:Nat) (m:List Jc×Int)=>(m.1,m.2,(i:Int))) way.length (fun i m=>m.1=Jce l o (way.take i) r p/\m.2=o+Uf l (way.take i)) (p,o) (by simp [Uf,Jce,Rk]) (fun i m hi hI=>?_) (fun m hI=>?_)
 ·obtain ⟨q,B⟩:=m;obtain ⟨rfl,rfl⟩:=hI;have hs:way[i]? = some way[i]:=aB hi;generalize way[i]=s at hs;obtain ⟨e,h1,h2,h3,h4,h5,h6⟩:=Jc0 hO hv hs;have hb:=Sz hO hv i oG;have hel:=h5.2.1;have hval:Lz (Jce l o (way.take i) r p):=Jyg hp;have hat:=Kap (l:=l) (r:=r) (o:=o) (p:=p) hs;have hsum:o+Uf l (way.take (i+1))=o+Uf l (way.take i)+e.Length:=by
   rw [Qw hs,Yl]; simp only [Uf,h4,eG]; omega
  generalize hB:o+Uf l (way.take i)=B at hat hsum ⊢;have hB2:-2147483648<=B/\B<=2147483648:=by omega
  have hstep:∀ Q,Jhz l r B s Q=if s.El=r.El then Lim Q (Je5 e s B r).1 (Je5 e s B r).2 r.Speed else Q:=fun Q=>by simp [Jhz,h2]
  unfold Dd;refine Is.inb hi (Is.at hs ?_);refine Is.onInl (θ:=fun z=>z=.inl (Jce l o (way.take (i+1)) r p)) ?_ (fun v hv=>?_) (fun b hb=>by cases hb)
  ·refine Is.bind (φ:=fun b=>b=true↔(s.El=r.El/\r.Active=true)/\Jbu l r) (Is.and sG fun _=>Is.bind (Jo6 l r) fun c hc=>Is.dec ?_) fun b hb=>?_
   ·rcases hc with ⟨rfl,hc⟩|⟨rfl,hc⟩
    ·exact iff_of_true rfl hc
    ·exact iff_of_false oG hc
   ·refine Is.ite hb (fun hy=>?_) (fun hn=>Is.val ?_)
    ·have hre:Jdq l r.El=e.Length:=by rw [<- hy.1.1]; exact Ju2 h2
     obtain ⟨c1,c2,c3,c4,c5,c6⟩:=hy.2;rw [Jrj h1 oG hB2 oG];simp only [aA];rw [Jn8 hval];refine Is.val ?_;have e1:∀ w,Jce l o w r p=Rk l r o w p:=fun w=>by unfold Jce; rw [if_pos ⟨hy.1.2,hy.2⟩]
     rw [e1,e1,hat,hstep,if_pos hy.1.1]
    ·by_cases hc:r.Active=true/\Jbu l r
     ·have e1:∀ w,Jce l o w r p=Rk l r o w p:=fun w=>by unfold Jce; rw [if_pos hc]
      rw [e1,e1,hat,hstep,if_neg fun q=>hn ⟨⟨q,hc.1⟩,hc.2⟩]
     ·have e1:∀ w,Jce l o w r p=p:=fun w=>by unfold Jce; rw [if_neg hc]
      rw [e1,e1]
  ·cases hv;rw [h1];simp only [aA];refine Is.val ⟨(Jce l o (way.take (i+1)) r p,o+Uf l (way.take (i+1))), ?_,rfl,rfl⟩;rw [hsum,Qt (n:=B+e.Length) oG oG,Zi oG]
 ·obtain ⟨q,B⟩:=m;obtain ⟨rfl,rfl⟩:=hI;unfold Dd;refine Is.oub (Is.val ?_);rw [aR]
theorem Jp2{l:Ja}(hj:l.Joints.length<=1048576)(hO:OkL l){way:List Jb}(hv:Vo l way){o:Int}(ho:-1073741824<=o/\o<=1073741824){p:List Jc}(hp:Lz p){list:List Jj}(hl:list.length<=1048576) :
  Gk list way o l p=some (Jah l o way list p):=by
 suffices Is (Gk list way o l p) fun r=>r=Jah l o way list p by obtain ⟨r,h,rfl⟩:=this; exact h
 unfold Gk;have hpl:=hp.1;have hvl:=hv.2.1;obtain ⟨M,hM,hM2⟩:=Is.app (L:=([]:List Jc)) (ys:=p) (by simp only [aF,Js,Enc.b]; omega);rw [hM];simp only [cX] at hM2;subst hM2;obtain ⟨b,hb,hbi⟩:=Ij (p:=M) oG;obtain ⟨c,hc,hci⟩:=Et l way hj oG;rw [hb,hc,hbi.2 hp,hci.2 hv,decide_eq_false (show ¬ o < -1073741824 by omega),decide_eq_false (show ¬ 1073741824<o by omega)];simp only [aA,aX,cond_false,fC];refine Is.fold (L:=list) (mk:=fun i (m:List Jc)=>(m,i)) (fun i m=>m=Jah l o way (list.take i) M) M oG rfl (fun i r m hr hi hI=>?_) (fun m hI=>?_)
 ·subst hI;unfold Oc;have hat:Jah l o way (list.take (i+1)) M=Jce l o way r (Jah l o way (list.take i) M):=by rw [Qw hr,Jg7,Jx9]
  refine Is.inb hi (Is.at hr ?_);rw [Jp9 hO hv ho (Jod hp)];simp only [onInl,Vm,aA];exact Is.val ⟨_,rfl,hat.symm⟩
 ·subst hI;unfold Oc;refine Is.oub (Is.val ?_);rw [aR];exact Is.val rfl
noncomputable def Jya(l:Ja)(k:Je)(list:List Jj):List Jc:=Jah l k.Origin k.Steps list (ofP l k.Origin k.Steps)
theorem Kfa(l:Ja)(k:Je)(list:List Jj):Lz (Jya l k list):=Jod (Juz _ _ _)
theorem Kdt{l:Ja}(h:Sm l)(hO:OkL l){k:Je}(hs:k.Steps.length<=100)(ho:-1073741824<=k.Origin/\k.Origin<=1073741824){list:List Jj}(hl:list.length<=1048576)(seq:Int) :
  ∃ r,Zr l k list seq=some r/\Yy l k list seq=some r/\r.1.Profile.length<=128/\r.1.Links.length<=24 /\
   ((r.1=⟨0,0,[],[]⟩/\(r.2=1\/r.2=2))\/(Vo l k.Steps/\r.2=0/\∃ M,Bb l k.Steps k.Origin k.At=some M/\r.1=⟨seq,k.At,Ru (Jya l k list) k.Origin k.At,M⟩/\Kjt r.1 /\
    M.Perm (Yt l k.At k.Origin k.Steps)/\M.Pairwise leL)):=by
 unfold Zr Yy;obtain ⟨c1,hc1,hci1⟩:=Xf l k.Steps h.jo oG;obtain ⟨c2,hc2,hci2⟩:=Et l k.Steps h.jo oG;have:c2=c1:=dA.2 (hci2.trans hci1.symm);subst this;rw [hc1,hc2];simp only [aA];cases hcc:c2 with
 | false=>exact ⟨(⟨0,0,[],[]⟩,1),rfl,rfl,by simp,by simp,.inl ⟨rfl,.inl rfl⟩⟩
 | true=>
  have hv:=hci1.1 hcc
  by_cases hq:seq<1\/1073741824<seq
  ·have:(!true||decide (seq<1)||decide (1073741824<seq))=true:=by rcases hq with q|q <;> simp [q]
   rw [this];exact ⟨(⟨0,0,[],[]⟩,1),rfl,rfl,by simp,by simp,.inl ⟨rfl,.inl rfl⟩⟩
  have:(!true||decide (seq<1)||decide (1073741824<seq))=false:=by
   rw [decide_eq_false (show ¬ seq<1 from fun q=>hq (.inl q)),decide_eq_false (show ¬ 1073741824<seq from fun q=>hq (.inr q))]; rfl
  rw [this];simp only [cond_false];have hvl:=hv.2.1;obtain ⟨M,m1,m2,m3⟩:=Jor h hO (way:=k.Steps) oG ho k.At;obtain ⟨m3,m4⟩:M.Perm (Yt l k.At k.Origin k.Steps)/\M.Pairwise leL:=by
   rcases m3 with ⟨_,a,b⟩|⟨a,_⟩
   ·exact ⟨a,b⟩
   ·exact absurd hv a
  have hM:M.length<=24:=by rw [m3.length_eq]; exact Jpy hO hv _ _
  rw [Jrh hO hv ho,Jvr hO hv ho];simp only [aA];rw [Jg1 h.jo hO hv ho (Juz _ _ _) hl,Jp2 h.jo hO hv ho (Juz _ _ _) hl];simp only [aA];have hpv:=Kfa l k list;have hpl:=hpv.1;have hcl:=Jjk (Jya l k list) k.Origin k.At;show ∃ r,((Bj (Jya l k list) k.Origin k.At).bind _)=_/\((Bi (Jya l k list) k.Origin k.At).bind _)=_/\_;rw [Jo0 hpv,Ja7 hpv,m1,m2];simp only [aA];obtain ⟨b1,hb1,hbi1⟩:=Jiw (a:=⟨seq,k.At,Ru (Jya l k list) k.Origin k.At,M⟩) (by dsimp only; omega);obtain ⟨b2,hb2,hbi2⟩:=Joj (a:=⟨seq,k.At,Ru (Jya l k list) k.Origin k.At,M⟩) (by dsimp only; omega);have:b2=b1:=dA.2 (hbi2.trans hbi1.symm);subst this;rw [hb1,hb2];simp only [aA];cases hbb:b2 with
  | false=>exact ⟨(⟨0,0,[],[]⟩,2),rfl,rfl,by simp,by simp,.inl ⟨rfl,.inr rfl⟩⟩
  | true=>exact ⟨(⟨seq,k.At,Ru (Jya l k list) k.Origin k.At,M⟩,0),rfl,rfl,by dsimp only; omega,hM,.inr ⟨hv,rfl,M,rfl,rfl,hbi1.1 hbb,m3,m4⟩⟩
section
variable {c:Int} {p q:List Jc}
variable {l:Ja} {r:Jj}
theorem Jg2(hO:OkL l)(s:Jb):0<=lenOf l s:=by
 by_cases h:Um l s.El=true
 ·have:=hO.lens h; omega
 ·unfold lenOf;rw [Bool.not_eq_true] at h;rw [h]; exact Int.le_refl _
end
theorem Jdn{α:Type}{b:Bool}{x y:α}:(bif b then some x else some y)=some (bif b then x else y):=by cases b <;> rfl
def Jig(l:Ja)(i:Int):Int:=bif Um l i then ((l.Elements[i.toNat]?).map (·.Section)).getD (-1) else -1
theorem Jld(l:Ja)(i:Int):Yu l i=some (Jig l i):=by
 unfold Yu Jig;simp only [Jdn,aA,bK];have e:(decide (i<0)||decide (((l.Elements.length:Nat):Int)<=i)) = !Um l i:=by
  unfold Um; rw [dA]; simp
 rw [e];cases h:Um l i with
 | false=>rfl
 | true=>
  obtain ⟨x,h2,h3⟩:=Vj h;simp [h2,h3]
theorem Df(l:Ja)(i:Int):Vt l i=some (Jig l i):=by
 unfold Vt Jig;simp only [Jdn,aA,bK];have e:(decide (i<0)||decide (((l.Elements.length:Nat):Int)<=i)) = !Um l i:=by
  unfold Um; rw [dA]; simp
 rw [e];cases h:Um l i with
 | false=>rfl
 | true=>
  obtain ⟨x,h2,h3⟩:=Vj h;simp [h2,h3]
def Kev(l:Ja)(r:Jh):Kn×Bool :=
 bif decide (r.Exit<0)||decide (((l.Signals.length:Nat):Int)<=r.Exit) then (Kn.mk ByteArray.empty (Jf.mk 0 0) 0,false)
 else ((l.Signals[r.Exit.toNat]?).getD (Kn.mk ByteArray.empty (Jf.mk 0 0) 0),true)
theorem Jrq(l:Ja)(r:Jh):Iy l r=some (Kev l r):=by
 unfold Iy Kev;simp only [Jdn,aA,bK];cases h:(decide (r.Exit<0)||decide (((l.Signals.length:Nat):Int)<=r.Exit)) with
 | true=>rfl
 | false=>
  simp only [dZ,decide_eq_false_iff_not] at h;obtain ⟨x,h2,h3⟩:=Is.ix (L:=l.Signals) (i:=r.Exit) oG oG;simp [h2,h3]
def Ke5(o:List Jb)(e:Int):Bool:=decide (∃ x∈o,x.El=e)
def inS(L:List Int)(e:Int):Bool:=decide (e∈L)
theorem Jyy(l:Ja)(r:Jh)(o:List Jb)(e:Int)(h:o.length<=1048576)(hr:r.Sections.length<=1048576) :
  Cz l r o e=some (Ke5 o e||inS r.Sections (Jig l e)):=by
 have:Is (Cz l r o e) fun b=>b=(Ke5 o e||inS r.Sections (Jig l e)):=by
  unfold Cz;refine Is.all (L:=o) (fun _ x=>¬ x.El=e) () oG (fun i x hx hi hI=>?_) ?_ (fun hn=>?_)
  ·unfold Hf;refine Is.inb hi (Is.at hx ?_);refine Is.ite Km (fun hc=>Is.val ?_) (fun hc=>Is.val ⟨rfl,hc⟩);show true=_;rw [show Ke5 o e=true from decide_eq_true ⟨x,aC hx,hc⟩,Bool.true_or]
  ·simp [Hf]
  have hc:Ke5 o e=false:=decide_eq_false (by
   rintro ⟨x,hx,hc⟩;obtain ⟨i,hi⟩:=aS hx;exact hn i x hi hc)
  rw [hc,Bool.false_or];refine Is.all (L:=r.Sections) (fun _ x=>¬ x=Jig l e) () oG (fun i x hx hi hI=>?_) ?_ (fun hn=>Is.val ?_)
  ·unfold He;refine Is.inb hi (Is.at hx ?_);rw [Df,aA];refine Is.ite Km (fun hc=>Is.val ?_) (fun hc=>Is.val ⟨rfl,hc⟩);exact (decide_eq_true (hc▸aC hx:Jig l e∈r.Sections)).symm
  ·simp [He]
  ·refine Eq.symm (decide_eq_false ?_);intro hx;obtain ⟨i,hi⟩:=aS hx;exact hn i _ hi rfl
 obtain ⟨b,h1,h2⟩:=this;rw [h1,h2]
def ovR(r:Jh)(o:List Jb)(p:List Jg)(s:List Int):Jh :=
 Jh.mk r.Name r.Entry r.Exit r.Path r.Points r.Sections r.Approach r.Length o p s r.Flank r.Guards r.Gaps
structure FewR (r:Jh):Prop where
 pa:r.Path.length<=60
 ov:r.Over.length<=60
 se:r.Sections.length<=60
 os:r.OverSections.length<=60
 po:r.Points.length<=60
 op:r.OverPoints.length<=60
 fl:r.Flank.length<=60
 gu:r.Guards.length<=60
 ga:r.Gaps.length<=60
theorem Keq(l:Ja):Jm9 l []=[]:=by
 have h:=Jp0 l [];exact aO (by simpa using h)
def zAt(l:Ja)(way:List Jb)(i:Nat):Int:=Jig l (((way[i]?).map (·.El)).getD 0)
theorem Kbs{l:Ja}{way:List Jb}{i:Nat}{s:Jb}(h:way[i]? = some s):zAt l way i=Jig l s.El:=by
 unfold zAt; rw [h]; rfl
def Jps(l:Ja)(way:List Jb):Nat->Nat
 | 0=>1
 | n+1=>if zAt l way (n+1)=zAt l way n then Jps l way n else Jps l way n+1
theorem Js7(l:Ja)(way:List Jb)(n:Nat):Jps l way (n+1)=if zAt l way (n+1)=zAt l way n then Jps l way n else Jps l way n+1:=rfl
theorem Kaj(l:Ja)(way:List Jb):∀ n,Jps l way n<=n+1
 | 0=>aJ _
 | n+1=>by
  have:=Kaj l way n;unfold Jps;split <;> omega
def Kip(l:Ja)(e:Jf)(way:List Jb):Prop :=
 (∃ s,way[0]? = some s/\s.El=e.El/\s.In=e.Side)/\way.length<=12/\Vo l way/\Jps l way (way.length - 1)=(Jbm l way).length
theorem Jyu(l:Ja)(way:List Jb)(h0:0<way.length)(h:way.length<=1000):Is (Jp (Ie l way) (1,1)) fun o=>o=.inl ((Jps l way (way.length - 1):Nat):Int):=by
 refine Is.loop (mk:=fun i (s:Int)=>(s,((i+1:Nat):Int))) (way.length - 1) (fun i s=>s=((Jps l way i:Nat):Int)) (1:Int) rfl (fun i s hi hI=>?_) (fun s hI=>?_)
 ·have h1:i+1<way.length:=by omega
  have hc:=Kaj l way i;simp only [Ie];rw [decide_eq_true oG,cond_true];refine Is.onInl (θ:=fun o=>o=.inl ((Jps l way (i+1):Nat):Int)) ?_ ?_ (fun b hb=>by cases hb)
  ·refine Is.at (aB h1) ?_;rw [Df,aA];have hw:w64 (((i+1:Nat):Int) - 1)=(i:Int):=by rw [Qt oG oG]; omega
   rw [hw];refine Is.at (aB (show i<way.length by omega)) ?_;rw [Df,aA];have e1:=Kbs (l:=l) (aB h1);have e2:=Kbs (l:=l) (aB (show i<way.length by omega));rw [<- e1,<- e2];subst hI;refine Is.ifn Km (fun hn=>Is.val ?_) (fun hn=>Is.val ?_)
   ·rw [Js7,if_neg hn,Zi oG]
   ·rw [Js7,if_pos hn]
  ·rintro v hv;cases hv;refine Is.val ⟨_, ?_,rfl⟩;have hw:w64 (((i+1:Nat):Int)+1)=((i+1+1:Nat):Int):=by rw [Qt oG oG]; omega
   rw [hw]
 ·simp only [Ie];rw [decide_eq_false oG,cond_false];exact Is.val (by rw [hI])
theorem Kgb(l:Ja)(hj:l.Joints.length<=1048576)(e:Jf)(way:List Jb)(h:way.length<=1000):Is (Lj l e way) fun b=>b=true↔Kip l e way:=by
 unfold Lj;refine Is.bind (Is.or Km fun _=>Is.val Km) fun b1 hb1=>?_;refine Is.bind (φ:=fun b=>b=true↔(¬ (0<way.length/\way.length<=12))\/∃ s,way[0]? = some s/\s.El≠e.El) (Is.ite hb1 (fun hp=>Is.val ?_) fun hp=>?_) fun b2 hb2=>?_
 ·exact ⟨fun _=>.inl oG,fun _=>rfl⟩
 ·have h0:0<way.length:=by omega
  refine Is.at (i:=0) (aB h0) (Is.val ?_);rw [bL,decide_eq_false_iff_not];constructor
  ·exact fun hn=>.inr ⟨_,aB h0,hn⟩
  ·rintro (hn|⟨s,hs,hn⟩)
   ·omega
   ·rw [aB h0] at hs; cases hs; exact hn
 refine Is.bind (φ:=fun b=>b=true↔((¬ (0<way.length/\way.length<=12))\/∃ s,way[0]? = some s/\s.El≠e.El)\/∃ s,way[0]? = some s/\s.In≠e.Side) (Is.ite hb2 (fun hp=>Is.val ?_) fun hp=>?_) fun b4 hb4=>?_
 ·exact ⟨fun _=>.inl hp,fun _=>rfl⟩
 ·have h0:0<way.length:=by
   by_cases hh:0<way.length
   ·exact hh
   ·exact absurd (.inl fun q=>hh q.1) hp
  refine Is.at (i:=0) (aB h0) (Is.val ?_);rw [bL,decide_eq_false_iff_not];constructor
  ·exact fun hn=>.inr ⟨_,aB h0,hn⟩
  ·rintro (hn|⟨s,hs,hn⟩)
   ·exact absurd hn hp
   ·rw [aB h0] at hs; cases hs; exact hn
 refine Is.bind (Is.or (q:=¬ Vo l way) hb4 fun _=>?_) fun b6 hb6=>?_
 ·exact (Et l way hj oG).bind fun r hr=>Is.val (Jof hr)
 refine Is.ite hb6 (fun hp=>Is.val ?_) fun hp=>?_
 ·simp only [aQ,false_iff];rintro ⟨⟨s,hs,h1,h2⟩,h3,h4,h5⟩;have h0:=Qs hs;rcases hp with ((hp|⟨t,ht,hp⟩)|⟨t,ht,hp⟩)|hp
  ·omega
  ·rw [hs] at ht; cases ht; exact hp h1
  ·rw [hs] at ht; cases ht; exact hp h2
  ·exact hp h4
 ·have h0:0<way.length/\way.length<=12:=by
   by_cases hh:0<way.length/\way.length<=12
   ·exact hh
   ·exact absurd (.inl (.inl (.inl hh))) hp
  refine Is.onInl (Jyu l way h0.1 h) (fun v hv=>?_) (fun b hb=>by cases hb);cases hv;rw [Rr l way oG,aA];refine Is.val ?_;rw [decide_eq_true_iff];have hg:=aB h0.1;constructor
  ·intro hc;refine ⟨⟨_,hg, ?_, ?_⟩,h0.2, ?_,by omega⟩
   ·by_cases hh:(way[0]'h0.1).El=e.El
    ·exact hh
    ·exact absurd (.inl (.inl (.inr ⟨_,hg,hh⟩))) hp
   ·by_cases hh:(way[0]'h0.1).In=e.Side
    ·exact hh
    ·exact absurd (.inl (.inr ⟨_,hg,hh⟩)) hp
   ·by_cases hh:Vo l way
    ·exact hh
    ·exact absurd (.inr hh) hp
  ·rintro ⟨_,_,_,hc⟩;omega
theorem Jq7{l:Ja}(h:l.Signals.length<=1048576)(e:Jf):Wn l e=some (Jcn l.Signals e):=by
 have:Is (Wn l e) fun r=>r=Jcn l.Signals e:=by
  unfold Wn;refine Is.all (L:=l.Signals) (fun _ x=>x.At≠e) () oG (fun i x hx hi hI=>?_) ?_ (fun hn=>?_)
  ·unfold Bo;refine Is.inb hi (Is.at hx (Is.ite (Pm _ _) (fun hc=>Is.val ?_) fun hc=>Is.val ⟨rfl,hc⟩));exact (Jr0 hx hc hI).symm
  ·simp [Bo]
  ·refine Is.val (Jsq fun s hs=>?_).symm;obtain ⟨i,hi⟩:=aS hs;exact hn i s hi
 obtain ⟨r,h1,rfl⟩:=this;exact h1
def Jv0(l:Ja)(b:Jb):Bool:=decide (0<=Jcn l.Signals ⟨b.El,b.Out⟩) || !(Ky l ⟨b.El,b.Out⟩).2
theorem Kaz{l:Ja}(h:Sm l)(b:Jb):Ds l b=some (Jcn l.Signals ⟨b.El,b.Out⟩,Jv0 l b):=by
 unfold Ds Jv0;rw [Jq7 h.sg,aA,Tk h.jo,aA]
theorem Jqy(L:List Kn)(e:Jf):Jcn L e = -1\/(0<=Jcn L e/\Jcn L e<(L.length:Nat)):=by
 unfold Jcn;cases h:L.findIdx? (fun s=>Kd s.At e) with
 | none=>exact .inl rfl
 | some i=>
  have:=(List.findIdx?_eq_some_iff_findIdx_eq.1 h).1;exact .inr ⟨by simp,by simp; omega⟩
open Classical in
noncomputable def Jzk(l:Ja)(e:Jf)(way:List Jb):Bool:=decide (Kip l e way)
theorem Jqe{l:Ja}{e:Jf}{way:List Jb}:Jzk l e way=true↔Kip l e way:=by simp [Jzk]
theorem Kio{l:Ja}(hj:l.Joints.length<=1048576)(e:Jf){way:List Jb}(h:way.length<=1000):Lj l e way=some (Jzk l e way):=by
 obtain ⟨b,h1,h2⟩:=Kgb l hj e way h;rw [h1];congr 1;rw [dA,h2,Jqe]
noncomputable def Jl8(l:Ja)(e:Jf)(way:List Jb)(rest:Jf->List Jb->List (List Jb))(b:Jb):List (List Jb) :=
 bif Jzk l e (way++[b]) then (bif Jv0 l b then [way++[b]] else rest (Ky l ⟨b.El,b.Out⟩).1 (way++[b])) else []
noncomputable def Jbw(l:Ja)(e:Jf):Nat->Jf->List Jb->List (List Jb)
 | 0,_,_=>[]
 | n+1,a,way=>(Hb l a).flatMap (Jl8 l e way (Jbw l e n))
theorem Jga(l:Ja)(e:Jf)(n:Nat)(a:Jf)(way:List Jb):Jbw l e (n+1) a way=(Hb l a).flatMap (Jl8 l e way (Jbw l e n)):=rfl
theorem Jcu{l:Ja}{e:Jf}:∀ {n:Nat} {a:Jf} {way p:List Jb},p∈Jbw l e n a way->Kip l e p
 | 0,_,_,p,h=>by simp [Jbw] at h
 | n+1,a,way,p,h=>by
  rw [Jga,eI] at h;obtain ⟨b,_,h⟩:=h;unfold Jl8 at h;cases hf:Jzk l e (way++[b]) with
  | false=>rw [hf] at h; cases h
  | true=>
   rw [hf,cond_true] at h;cases hz:Jv0 l b with
   | true=>rw [hz,cond_true,cA] at h; subst h; exact Jqe.1 hf
   | false=>rw [hz,cond_false] at h; exact Jcu h
theorem Jcw{α β:Type}(f:α->List β)(k:Nat):∀ (L:List α),(∀ x∈L,(f x).length<=k)->(L.flatMap f).length<=L.length * k
 | [],_=>by simp
 | x::L,h=>by
  have h1:=h x sG;have h2:=Jcw f k L fun y hy=>h y (by simp [hy]);rw [dY,aH,aE,bU]; omega
theorem Jr5(l:Ja)(e:Jf)(way:List Jb)(n:Nat)(rest:Jf->List Jb->List (List Jb))(h:∀ a w,(rest a w).length<=2 ^ n)(b:Jb):(Jl8 l e way rest b).length<=2 ^ n:=by
 have hp:1<=2 ^ n:=Nat.one_le_two_pow;unfold Jl8;cases Jzk l e (way++[b]) with
 | false=>simp
 | true=>
  cases Jv0 l b with
  | true=>simpa using hp
  | false=>exact h _ _
theorem Ji3(l:Ja)(e:Jf):∀ (n:Nat) (a:Jf) (way:List Jb),(Jbw l e n a way).length<=2 ^ n
 | 0,_,_=>by simp [Jbw]
 | n+1,a,way=>by
  have h1:=Jcw (Jl8 l e way (Jbw l e n)) (2 ^ n) (Hb l a) fun b _=>Jr5 l e way n _ (Ji3 l e n) b;rw [Jga];refine bG h1 ?_;rw [Nat.pow_succ,Nat.mul_comm];exact Nat.mul_le_mul_left _ (Jsy l a)
theorem Jsv{l:Ja}(hs:Sm l)(e:Jf):∀ (n:Nat) (a0:Jr) (a:Jf) (way:List Jb),way.length<=12->13<=n+way.length->a0.L.length+2 ^ (13 - way.length)<=1099511627776 ->
  Is (Vz n a0 l e a way) fun r=>r.L=a0.L++Jbw l e (13 - way.length) a way
 | 0,_,_,way,h1,h2,_=>by omega
 | n+1,a0,a,way,h1,h2,h3=>by
  show Is (Vy (Vz n) a0 l e a way) _;unfold Vy;rw [Jc3,aA];have hb:=Jsy l a;have hp:2 ^ (13 - way.length)=2 * 2 ^ (12 - way.length):=by
   rw [show 13 - way.length=(12 - way.length)+1 by omega,Nat.pow_succ]; omega
  have hq:1<=2 ^ (12 - way.length):=Nat.one_le_two_pow;rw [show 13 - way.length=(12 - way.length)+1 by omega,Jga];generalize hg:Jl8 l e way (Jbw l e (12 - way.length))=g;have hlen:∀ b,(g b).length<=2 ^ (12 - way.length):=fun b=>by rw [<- hg]; exact Jr5 l e way _ _ (Ji3 l e _) b
  refine Is.onInl (θ:=fun o=>o=.inl (a0.L++(Hb l a).flatMap g)) ?_ (fun v hv=>?_) (fun b hb=>by cases hb)
  ·refine Is.loop (mk:=fun i (s:List (List Jb))=>((i:Int),s)) (Hb l a).length (fun i s=>s=a0.L++((Hb l a).take i).flatMap g) a0.L sG (fun i s hi hI=>?_) (fun s hI=>?_)
   ·have hi3:(i+1) * 2 ^ (12 - way.length)=i * 2 ^ (12 - way.length)+2 ^ (12 - way.length):=bU _ _;have hi2:i * 2 ^ (12 - way.length)<=1 * 2 ^ (12 - way.length):=bV _ oG;have hsl:s.length<=a0.L.length+i * 2 ^ (12 - way.length):=by
     have h4:=Jcw g (2 ^ (12 - way.length)) ((Hb l a).take i) fun b _=>hlen b;rw [aT,Nat.min_eq_left oG] at h4;rw [hI,aH]; omega
    have hx:=aB hi;have htk:((Hb l a).take (i+1)).flatMap g=((Hb l a).take i).flatMap g++g (Hb l a)[i]:=by
     rw [dJ,hx,Option.toList_some,List.flatMap_append]; simp
    simp only [Bg];rw [decide_eq_true oG,cond_true];refine Is.onInl (θ:=fun o=>o=.inl (a0.L++((Hb l a).take (i+1)).flatMap g)) ?_ (fun v hv=>?_) (fun b hb=>by cases hb)
    ·refine Is.bind (Is.app (by simp only [aF,Js,Enc.b]; omega)) fun M hM=>?_;rw [hM,cX];refine Is.at hx ?_;refine Is.bind (Is.app (by simp only [aE,aF,Js,Enc.b]; omega)) fun M hM=>?_;subst hM;have hlen2:(way++[(Hb l a)[i]]).length=way.length+1:=by simp
     rw [htk,<- bC,<- hI,<- hg];unfold Jl8;rw [Kio hs.jo e oG,aA];cases hft:Jzk l e (way++[(Hb l a)[i]]) with
     | false=>exact Is.val (by rw [cond_false,bE])
     | true=>
      simp only [aX,cond_false,cond_true];refine Is.at hx ?_;rw [Kaz hs,aA];show Is (bif Jv0 l (Hb l a)[i] then _ else _) _;cases hend:Jv0 l (Hb l a)[i] with
      | true=>
       simp only [cond_true];refine Is.bind (Is.app (by simp only [aE,aF,Js,Enc.b]; omega)) fun M hM=>?_;subst hM;exact Is.val rfl
      | false=>
       simp only [cond_false];refine Is.at hx ?_;rw [Tk hs.jo,aA];have f2:=(Jqe.1 hft).2.1;refine (Jsv hs e n ⟨s⟩ _ _ f2 oG (by show s.length+_<=_; rw [hlen2,show 13 - (way.length+1)=12 - way.length by omega]; omega)).bind fun r hr=>?_;rw [hlen2,show 13 - (way.length+1)=12 - way.length by omega] at hr;exact Is.val (by rw [hr])
    ·cases hv;exact Is.val ⟨_,by rw [Qt oG oG]; rfl,rfl⟩
   ·simp only [Bg];rw [decide_eq_false oG,cond_false];exact Is.val (by rw [hI,aR])
  ·cases hv;exact Is.val rfl
theorem Is.sadd{a b:ByteArray}(h:a.size+b.size<=9223372036854775807):Is (Jh8 a b) fun M=>M=a++b:=⟨a++b,by unfold Jh8; rw [if_pos h],rfl⟩
def sgN(l:Ja)(i:Int):ByteArray:=((l.Signals[i.toNat]?).map (·.Name)).getD ByteArray.empty
def Kh5 : ByteArray:=ByteArray.mk #[45,101,110,100]
def Kbh : ByteArray:=ByteArray.mk #[45]
def Kjp : ByteArray:=ByteArray.mk #[46]
def Jgn(l:Ja)(i x:Int):ByteArray:=if x<0 then sgN l i++Kh5 else sgN l i++Kbh++sgN l x
theorem Jul{l:Ja}{i:Int}{y:Kn}(h:l.Signals[i.toNat]? = some y):sgN l i=y.Name:=by unfold sgN; rw [h]; rfl
theorem Jjt{l:Ja}(h:Sm l)(i:Int):(sgN l i).size<=1048576:=by
 unfold sgN;cases hy:l.Signals[i.toNat]? with
 | none=>simp
 | some y=>exact h.sgn y (aC hy)
theorem Jys{l:Ja}(h:Sm l)(i x:Int):(Jgn l i x).size<=3000000:=by
 have h1:=Jjt h i;have h2:=Jjt h x;have h3:Kh5.size=4:=rfl;have h4:Kbh.size=1:=rfl;unfold Jgn;split
 ·rw [dR]; omega
 ·rw [dR,dR]; omega
theorem Ju1{l:Ja}(h:Sm l){i x:Int}(hi:0<=i/\i<(l.Signals.length:Nat))(hx:x = -1\/(0<=x/\x<(l.Signals.length:Nat))):Ya l i x=some (Jgn l i x):=by
 have:Is (Ya l i x) fun M=>M=Jgn l i x:=by
  unfold Ya Jgn;have h1:=Jjt h i;have h2:=Jjt h x;have h3:Kh5.size=4:=rfl;have h4:Kbh.size=1:=rfl;refine Is.cond (fun h0=>?_) fun h0=>?_
  ·rw [if_pos (of_decide_eq_true h0)];refine (Is.ix hi.1 hi.2).bind fun y hy=>?_;rw [<- Jul hy];exact (Is.sadd (b:=Kh5) (by rw [h3]; omega)).bind fun M hM=>Is.val hM
  ·rw [if_neg (of_decide_eq_false h0)];have h0:=of_decide_eq_false h0;refine (Is.ix hi.1 hi.2).bind fun y hy=>?_;rw [<- Jul hy];refine (Is.sadd (b:=Kbh) (by rw [h4]; omega)).bind fun M hM=>?_;have hM1:M.size=(sgN l i).size+1:=by rw [hM,dR,h4]
   refine (Is.ix oG oG).bind fun z hz=>?_;rw [<- Jul hz];exact (Is.sadd oG).bind fun M' hM'=>Is.val (by rw [hM',hM])
 obtain ⟨M,h1,rfl⟩:=this;exact h1
theorem Jyq{n:Int}(h0:0<=n)(h1:n<1000000):Is (Zu n) fun M=>M.size<=6:=by
 unfold Zu;refine Is.onInl (θ:=fun o=>∃ M,o=.inl M/\M.size<=6) ?_ (fun v hv=>?_) (fun b hb=>by obtain ⟨x,hx,_⟩:=hb; cases hx)
 ·refine Is.loop (mk:=fun _ (s:Int×ByteArray)=>s) 6 (fun i s=>0<=s.1/\s.1<10 ^ (6 - i)/\s.2.size<=i) (n,ByteArray.empty) ⟨h0,h1,aJ _⟩ (fun i s hi hI=>?_) (fun s hI=>?_)
  ·obtain ⟨x,b⟩:=s;obtain ⟨g1,g2,g3⟩:=hI;simp only at g1 g2 g3;simp only [Hn];refine Is.cond (fun hx=>?_) fun _=>Is.val ⟨b,rfl,by omega⟩;have hx:=of_decide_eq_true hx;have hs:∀ y:Int,(bytesOf [y]).size=1:=fun y=>rfl;have hp:(10:Int) ^ (6 - i)=10 ^ (6 - (i+1)) * 10:=by rw [show 6 - i=(6 - (i+1))+1 by omega,Int.pow_succ]
   have hle:(10:Int) ^ (6 - i)<=1000000:=by
    have:i=0\/i=1\/i=2\/i=3\/i=4\/i=5:=by omega
    rcases this with rfl|rfl|rfl|rfl|rfl|rfl <;> decide
   refine (Is.sadd (by rw [hs]; omega)).bind fun M hM=>Is.val ⟨(w64 (x.tdiv 10),M),rfl, ?_⟩;have hd:x.tdiv 10=x / 10:=Int.tdiv_eq_ediv_of_nonneg g1;have hw:w64 (x.tdiv 10)=x / 10:=by rw [hd]; exact Qt oG oG
   refine ⟨by simp only [hw]; omega,by simp only [hw]; omega, ?_⟩;simp only [hM,dR,hs]; omega
  ·obtain ⟨x,b⟩:=s;obtain ⟨g1,g2,g3⟩:=hI;simp only at g1 g2 g3;simp only [Hn];rw [decide_eq_false (by simp at g2; omega),cond_false];exact Is.val ⟨b,rfl,g3⟩
 ·obtain ⟨M,e1,e2⟩:=hv;cases e1;exact Is.val e2
noncomputable def Khy(n:Nat):ByteArray:=(Zu (n:Int)).getD ByteArray.empty
theorem Kaa{n:Nat}(h:n<1000000):Zu (n:Int)=some (Khy n)/\(Khy n).size<=6:=by
 obtain ⟨M,h1,h2⟩:=Jyq (n:=(n:Int)) oG oG;unfold Khy;rw [h1];exact ⟨rfl,h2⟩
def Kaf(p:List Jb):Jf:=match p.getLast? with|some s=>⟨s.El,s.Out⟩|none=>⟨0,0⟩
def My(l:Ja)(p:List Jb):Int:=Jcn l.Signals (Kaf p)
def Dm(P:List (List Jb))(k:Nat):List Jb:=(P[k]?).getD []
def Jnc(l:Ja)(i:Int)(P:List (List Jb))(x:Int):Nat->Nat
 | 0=>1
 | k+1=>if Jgn l i (My l (Dm P k))=Jgn l i x then Jnc l i P x k+1 else Jnc l i P x k
theorem Jsg(l:Ja)(i:Int)(P:List (List Jb))(x:Int)(k:Nat):Jnc l i P x (k+1)=if Jgn l i (My l (Dm P k))=Jgn l i x then Jnc l i P x k+1 else Jnc l i P x k:=rfl
theorem Jtj(l:Ja)(i:Int)(P:List (List Jb))(x:Int):∀ k,Jnc l i P x k<=k+1
 | 0=>aJ _
 | k+1=>by
  have:=Jtj l i P x k;rw [Jsg];split <;> omega
noncomputable def Kgd(l:Ja)(i:Int)(P:List (List Jb))(k:Nat):ByteArray :=
 if 1<Jnc l i P (My l (Dm P k)) k then Jgn l i (My l (Dm P k))++Kjp++Khy (Jnc l i P (My l (Dm P k)) k) else Jgn l i (My l (Dm P k))
def atS(l:Ja)(i:Int):Jf:=((l.Signals[i.toNat]?).map (·.At)).getD ⟨0,0⟩
noncomputable def Jzf(l:Ja)(i:Int)(P:List (List Jb))(k:Nat):Jh :=
 Jh.mk (Kgd l i P k) i (My l (Dm P k)) (Dm P k) (Jm9 l (Dm P k)) (Jbm l (Dm P k)) (Jig l (atS l i).El) (w64 (Uf l (Dm P k))) [] [] [] [] [] []
noncomputable def Jlu(l:Ja)(i:Int):List (List Jb):=Jbw l (Ky l (atS l i)).1 13 (Ky l (atS l i)).1 []
noncomputable def Jfw(l:Ja)(i:Int):List Jh :=
 if 0<=i/\i<(l.Signals.length:Nat) then (if (Ky l (atS l i)).2=true then (List.range (Jlu l i).length).map (Jzf l i (Jlu l i)) else []) else []
theorem Jqo(l:Ja)(i:Int):(Jlu l i).length<=8192:=Ji3 l _ 13 _ _
theorem Js6(l:Ja)(i:Int):(Jfw l i).length<=8192:=by
 have:=Jqo l i;unfold Jfw;split
 ·split
  ·simpa using this
  ·simp
 ·simp
theorem Jhk{P:List (List Jb)}{k:Nat}(h:k<P.length):P[k]? = some (Dm P k):=by
 unfold Dm; rw [aB h]; rfl
theorem Kbb{p:List Jb}(h:0<p.length)(h2:p.length<=1000):∃ s,p.getLast? = some s/\ixO p (w64 (((p.length:Nat):Int) - 1))=some s:=by
 have hw:w64 (((p.length:Nat):Int) - 1)=((p.length - 1:Nat):Int):=by rw [Qt oG oG]; omega
 rw [hw,eC];have:=aB (l:=p) (i:=p.length - 1) oG;exact ⟨_,this,Vc this⟩
theorem Jsz{l:Ja}(h:Sm l){p:List Jb}{s:Jb}(hs:p.getLast? = some s):Ds l s=some (My l p,Jv0 l s):=by
 rw [Kaz h];unfold My Kaf;rw [hs]
theorem Kej{l:Ja}(h:Sm l){i:Int}(hi:0<=i/\i<(l.Signals.length:Nat)){P:List (List Jb)}(hP:∀ p∈P,0<p.length/\p.length<=12)(r:Jr)(hr:r.L=P)(k:Nat)(hk:k<P.length)(hk2:P.length<=8192)(x:Int)(z:Bool)(hx:x = -1\/(0<=x/\x<(l.Signals.length:Nat))) :
  Is (Jp (Hw l i r (k:Int) (x,z)) (1,0)) fun o=>o=.inl ((Jnc l i P x k:Nat):Int):=by
 refine Is.loop (mk:=fun j (s:Int)=>(s,(j:Int))) k (fun j s=>s=((Jnc l i P x j:Nat):Int)) (1:Int) rfl (fun j s hj hI=>?_) (fun s hI=>?_)
 ·have hc:=Jtj l i P x j;have hjP:j<P.length:=by omega
  have hN:(((r.L:List (List Jb)).map cellsOf).length)=P.length:=by rw [aV,hr]
  simp only [Hw];rw [decide_eq_true oG,cond_true];refine Is.onInl (θ:=fun o=>o=.inl ((Jnc l i P x (j+1):Nat):Int)) ?_ (fun v hv=>?_) (fun b hb=>by cases hb)
  ·have hg:=Jhk hjP;have hld:Vd r.L (((r.L:List (List Jb)).map cellsOf).length) j=some (Dm P j):=by rw [Kan (by rw [aV]),hr]; exact hg
   have hxi:Wd 0 (((r.L:List (List Jb)).map cellsOf).length) (j:Int)=some j:=by rw [Jxc 0 (by rw [hN]; exact hjP),aW]
   have hp:=hP _ (aC hg);obtain ⟨s1,e1,e2⟩:=Kbb hp.1 oG;simp only [hxi,hld,aA];rw [e2,aA,Jsz h e1,aA];have hex:My l (Dm P j) = -1\/(0<=My l (Dm P j)/\My l (Dm P j)<(l.Signals.length:Nat)):=Jqy l.Signals (Kaf (Dm P j));show Is ((Ya l i (My l (Dm P j))).bind _) _;rw [Ju1 h hi hex,aA];show Is ((Ya l i x).bind _) _;rw [Ju1 h hi hx,aA,Jsg];refine Is.ite Km (fun he=>Is.val ?_) (fun he=>Is.val ?_)
   ·rw [if_pos he,hI,Zi oG]
   ·rw [if_neg he,hI]
  ·cases hv;exact Is.val ⟨_,by rw [Zi oG],rfl⟩
 ·simp only [Hw];rw [decide_eq_false oG,cond_false];exact Is.val (by rw [hI])
theorem Khq{l:Ja}(h:Sm l)(i:Int):Lq l i=some (Jfw l i):=by
 have:Is (Lq l i) fun r=>r=Jfw l i:=by
  unfold Lq;refine Is.bind (φ:=fun b=>b=true↔(i<0\/((l.Signals.length:Nat):Int)<=i)) (Is.or Km fun _=>Is.val Km) fun b hb=>?_;refine Is.ite hb (fun hp=>Is.val ?_) fun hp=>?_
  ·unfold Jfw; rw [if_neg oG]
  have hi:0<=i/\i<(l.Signals.length:Nat):=by omega
  refine (Is.ix hi.1 hi.2).bind fun y hy=>?_;have hat:atS l i=y.At:=by unfold atS; rw [hy]; rfl
  rw [Vv h.jo,aA,<- hat];unfold Jfw;rw [if_pos hi];cases hj:(Ky l (atS l i)).2 with
  | false=>exact Is.val (by rw [if_neg sG])
  | true=>
   rw [if_pos rfl];simp only [aX,cond_false];have hse:=Jsv h (Ky l (atS l i)).1 (Tm+1) ⟨[]⟩ (Ky l (atS l i)).1 [] sG (by unfold Tm; simp) sG;have hse:Is (Iu ⟨[]⟩ l (Ky l (atS l i)).1 (Ky l (atS l i)).1 []) _:=hse;refine hse.bind fun r hr=>?_;have hr:r.L=Jlu l i:=hr;have hPl:=Jqo l i;have hP:∀ p∈Jlu l i,0<p.length/\p.length<=12:=fun p hp=>by
    obtain ⟨⟨s,hs,_⟩,h2,_⟩:=Jcu hp;exact ⟨Qs hs,h2⟩
   generalize Jlu l i=P at hr hPl hP;have hN:(((r.L:List (List Jb)).map cellsOf).length)=P.length:=by rw [aV,hr]
   refine Is.onInl (θ:=fun o=>o=.inl ((List.range P.length).map (Jzf l i P))) ?_ (fun v hv=>?_) (fun b hb=>by cases hb)
   ·refine Is.loop (mk:=fun k (s:List Jh)=>((k:Int),s)) P.length (fun k s=>s=(List.range k).map (Jzf l i P)) [] rfl (fun k s hk hI=>?_) (fun s hI=>?_)
    ·have hg:=Jhk hk;have hsl:s.length=k:=by rw [hI]; simp
     have hld:Vd r.L (((r.L:List (List Jb)).map cellsOf).length) k=some (Dm P k):=by rw [Kan (by rw [aV]),hr]; exact hg
     have hxi:Wd 0 (((r.L:List (List Jb)).map cellsOf).length) (k:Int)=some k:=by rw [Jxc 0 (by rw [hN]; exact hk),aW]
     have hp:=hP _ (aC hg);obtain ⟨s1,e1,e2⟩:=Kbb hp.1 oG;have hex:My l (Dm P k) = -1\/(0<=My l (Dm P k)/\My l (Dm P k)<(l.Signals.length:Nat)):=Jqy l.Signals (Kaf (Dm P k));have hc:=Jtj l i P (My l (Dm P k)) k;have hts:=Jys h i (My l (Dm P k));simp only [Se];rw [decide_eq_true (by rw [hN]; omega),cond_true,hxi,aA,hld,aA,e2,aA,Jsz h e1,aA];show Is ((Ya l i (My l (Dm P k))).bind _) _;rw [Ju1 h hi hex,aA,Jcq l _ oG,aA,Rr l _ oG,aA,Jao l _ oG,aA];refine (Is.eq (show ixO l.Signals i=some y from ?_)).bind fun y' hy'=>?_
     ·have:=Is.ix (L:=l.Signals) hi.1 hi.2;obtain ⟨z,z1,z2⟩:=this;rw [hy] at z2; cases z2; exact z1
     subst hy';rw [Df,aA];refine Is.onInl (Kej h hi hP r hr k hk hPl (My l (Dm P k)) _ hex) (fun v hv=>?_) (fun b hb=>by cases hb);cases hv;refine Is.onInl (θ:=fun o=>o=.inl (Kgd l i P k)) ?_ (fun v hv=>?_) (fun b hb=>by cases hb)
     ·unfold Kgd;refine Is.cond (fun h1=>?_) fun h1=>?_
      ·have h1:=of_decide_eq_true h1;rw [if_pos oG];have h4:Kjp.size=1:=rfl;refine (Is.sadd (b:=Kjp) (by rw [h4]; omega)).bind fun M hM=>?_;have hM1:M.size<=3000001:=by rw [hM,dR,h4]; omega
       obtain ⟨d1,d2⟩:=Kaa (n:=Jnc l i P (My l (Dm P k)) k) oG;rw [d1,aA];refine (Is.sadd oG).bind fun M' hM'=>Is.val ?_;rw [hM',hM]
      ·have h1:=of_decide_eq_false h1;rw [if_neg oG];exact Is.val rfl
     ·cases hv;refine (Is.app (by simp only [aE,aF,Js,Enc.b]; omega)).bind fun M hM=>?_;refine Is.val ⟨_,by rw [Zi oG], ?_⟩;rw [hM,hI,List.range_succ,cL,<- hat]
      rfl
    ·simp only [Se];rw [decide_eq_false (by rw [hN]; omega),cond_false];exact Is.val (by rw [hI])
   ·cases hv;exact Is.val rfl
 obtain ⟨r,h1,rfl⟩:=this;exact h1
noncomputable def Jm1(l:Ja):List Jh:=(List.range l.Signals.length).flatMap fun i=>Jfw l (i:Nat)
theorem Kg3{l:Ja}(h:Sm l):Pp l=some (if chk l=0 then (if 48<(Jm1 l).length then ([],2) else (Jm1 l,0)) else ([],chk l)):=by
 have:Is (Pp l) fun r=>r=(if chk l=0 then (if 48<(Jm1 l).length then ([],2) else (Jm1 l,0)) else ([],chk l)):=by
  unfold Pp;rw [Jn2 h,aA];refine Is.ifn Km (fun h0=>Is.val (by rw [if_neg h0])) fun h0=>?_;rw [if_pos h0];have hsg:=h.sg;refine Is.onInl (θ:=fun o=>o=.inl (Jm1 l)) ?_ (fun v hv=>?_) (fun b hb=>by cases hb)
  ·refine Is.loop (mk:=fun k (s:List Jh)=>((k:Int),s)) l.Signals.length (fun k s=>s=(List.range k).flatMap fun i=>Jfw l (i:Nat)) [] rfl (fun k s hk hI=>?_) (fun s hI=>?_)
   ·have hsl:=Jcw (fun i:Nat=>Jfw l (i:Int)) 8192 (List.range k) fun i _=>Js6 l _;rw [<- hI,List.length_range] at hsl;have hf:=Js6 l (k:Int);simp only [Xl];rw [decide_eq_true oG,cond_true,Khq h,aA];refine (Is.app (by simp only [Js,Enc.b]; omega)).bind fun M hM=>?_;refine Is.val ⟨_,by rw [Zi oG], ?_⟩;rw [hM,hI,List.range_succ,List.flatMap_append]; simp
   ·simp only [Xl];rw [decide_eq_false oG,cond_false];exact Is.val (by rw [hI]; rfl)
  ·cases hv;refine Is.cond (fun h1=>Is.val ?_) fun h1=>Is.val ?_
   ·have h1:=of_decide_eq_true h1;rw [if_pos oG]
   ·have h1:=of_decide_eq_false h1;rw [if_neg oG]
 obtain ⟨r,h1,rfl⟩:=this;exact h1
def stO(l:Ja)(a:Jf×Bool)(o:List Jb):Jf×Bool:=match o.getLast? with|some s=>Ky l ⟨s.El,s.Out⟩|none=>a
def Ki8(l:Ja)(S:List Int)(lim:Int)(a:Jf×Bool)(o:List Jb):Bool :=
 (stO l a o).2&&decide (w64 (Uf l o)<lim)&&decide (o.length<12) && !(Ke5 o (stO l a o).1.El||inS S (Jig l (stO l a o).1.El)) && !(Hb l (stO l a o).1).isEmpty
def OvI(l:Ja)(S:List Int)(lim:Int)(a:Jf×Bool)(o:List Jb):Prop :=
 ∀ i s,o[i]? = some s->Ki8 l S lim a (o.take i)=true/\(Hb l (stO l a (o.take i)).1).head? = some s
structure Ov (l:Ja) (S:List Int) (lim:Int) (a:Jf×Bool) (o:List Jb):Prop where
 step:OvI l S lim a o
 stop:Ki8 l S lim a o=false
structure RtOK (l:Ja) (r:Jh):Prop where
 ex:r.Exit = -1\/(0<=r.Exit/\r.Exit<(l.Signals.length:Nat))
 p0:0<r.Path.length
 p1:r.Path.length<=12
 se:r.Sections=Jbm l r.Path
 po:r.Points=Jm9 l r.Path
 fl:r.Flank=[]
 gu:r.Guards=[]
 ga:r.Gaps=[]
theorem Kid{l:Ja}{r:Jh}(h:r∈Jm1 l):RtOK l r:=by
 unfold Jm1 at h;rw [eI] at h;obtain ⟨i,hi,h⟩:=h;unfold Jfw at h;split at h
 ·split at h
  ·rw [bN] at h;obtain ⟨k,hk,rfl⟩:=h;rw [List.mem_range] at hk;have hg:=Jhk hk;obtain ⟨⟨s,hs,_⟩,h2,_⟩:=Jcu (aC hg);exact ⟨Jqy _ _,Qs hs,h2,rfl,rfl,rfl,rfl,rfl⟩
  ·cases h
 ·cases h
structure OvStep (l:Ja) (S:List Int) (lim:Int) (a:Jf×Bool) (o:List Jb) (i:Nat) (s:Jb):Prop where
 on:(stO l a (o.take i)).2=true
 el:s.El=(stO l a (o.take i)).1.El
 si:s.In=(stO l a (o.take i)).1.Side
 po:(Jem l s).2=true
 hd:(Hb l (stO l a (o.take i)).1).head? = some s
 lt:w64 (Uf l (o.take i))<lim
 cov:∀ k t,k<i->o[k]? = some t->t.El≠s.El
 sec:Jig l s.El∉S
def ovB(L:List Jb)(e:Int):Bool:=decide (∃ x∈L,x.El=e)
def Jpo(L:List Jg)(x:Jg):Bool:=decide (x∈L)
def Sy(r:Jh)(e:Int):Bool:=ovB r.Path e||ovB r.Over e
def Jmj(r:Jh)(x:Jg):Bool:=Jpo r.Points x||Jpo r.OverPoints x||Jpo r.Flank x
theorem Jr3(x y:Jg):Wu x y=true↔x=y:=by
 cases x; cases y; simp [Wu]
theorem Tq(o:List Jb)(e:Int)(h:o.length<=1048576):Zy o e=some (ovB o e):=by
 have:Is (Zy o e) fun b=>b=ovB o e:=by
  unfold Zy;refine Is.all (L:=o) (fun _ x=>¬ x.El=e) () oG (fun i x hx hi hI=>?_) ?_ (fun hn=>Is.val ?_)
  ·unfold Rz;refine Is.inb hi (Is.at hx ?_);refine Is.ite Km (fun hc=>Is.val ?_) (fun hc=>Is.val ⟨rfl,hc⟩);exact (decide_eq_true (⟨x,aC hx,hc⟩:∃ x∈o,x.El=e)).symm
  ·simp [Rz]
  ·refine Eq.symm (decide_eq_false ?_);rintro ⟨x,hx,hc⟩;obtain ⟨i,hi⟩:=aS hx;exact hn i x hi hc
 obtain ⟨b,h1,h2⟩:=this;rw [h1,h2]
theorem Ja5(L:List Jg)(e:Jg)(h:L.length<=1048576):Dl L e=some (Jpo L e):=by
 have:Is (Dl L e) fun b=>b=Jpo L e:=by
  unfold Dl;refine Is.all (L:=L) (fun _ x=>¬ x=e) () oG (fun i x hx hi hI=>?_) ?_ (fun hn=>Is.val ?_)
  ·unfold Xj;refine Is.inb hi (Is.at hx ?_);refine Is.ite (Jr3 _ _) (fun hc=>Is.val ?_) (fun hc=>Is.val ⟨rfl,hc⟩);exact (decide_eq_true (hc▸aC hx:e∈L)).symm
  ·simp [Xj]
  ·refine Eq.symm (decide_eq_false ?_);intro hx;obtain ⟨i,hi⟩:=aS hx;exact hn i e hi rfl
 obtain ⟨b,h1,h2⟩:=this;rw [h1,h2]
structure Jii (r:Jh):Prop where
 path:r.Path.length<=1000
 over:r.Over.length<=1000
 pts:r.Points.length<=1000
 ops:r.OverPoints.length<=1000
 flank:r.Flank.length<=1000
 secs:r.Sections.length<=1000
 osecs:r.OverSections.length<=1000
 guards:r.Guards.length<=1000
 gaps:r.Gaps.length<=1000
theorem Jyz{r:Jh}(h:Jii r)(e:Int):((Zy r.Path e).bind fun r30=>((bif r30 then some true else ((Zy r.Over e).bind fun r32=>some r32)):Option Bool))=some (Sy r e):=by
 have:=h.path; have:=h.over;rw [Tq _ _ oG,Tq _ _ oG];simp only [aA,Jdn,bK]; rfl
theorem Jgk{r:Jh}(h:Jii r)(x:Jg):Mo r x=some (Jmj r x):=by
 have:=h.pts; have:=h.ops; have:=h.flank;unfold Mo;rw [Ja5 _ _ oG,Ja5 _ _ oG,Ja5 _ _ oG];simp only [aA,Jdn,bK]; rfl
theorem Gh{l:Ja}(h:l.Signals.length<=1048576)(e:Jf):Wn l e=some (Jcn l.Signals e):=by
 have:Is (Wn l e) fun r=>r=Jcn l.Signals e:=by
  unfold Wn;refine Is.all (L:=l.Signals) (fun _ x=>x.At≠e) () oG (fun i x hx hi hI=>?_) ?_ (fun hn=>?_)
  ·unfold Bo;refine Is.inb hi (Is.at hx (Is.ite (Pm _ _) (fun hc=>Is.val ?_) fun hc=>Is.val ⟨rfl,hc⟩));exact (Jr0 hx hc hI).symm
  ·simp [Bo]
  ·refine Is.val (Jsq fun s hs=>?_).symm;obtain ⟨i,hi⟩:=aS hs;exact hn i s hi
 obtain ⟨r,h1,rfl⟩:=this;exact h1
def z0 : Jg:=⟨0,0⟩
def Jf8(l:Ja)(i:Int):Int:=((l.Elements[i.toNat]?).map (·.Kind)).getD 0
def Jnp(k a:Int):Int:=(Jqq k a).headD 0
def Ji7(l:Ja)(P:Int->Bool)(N:Jg->Bool):Nat->Jf->Jg×Int×Bool
 | 0,_=>(z0,-1,false)
 | n+1,e=>
  if (Ky l e).2=false then (z0,-1,true) else
  if 0<=Jcn l.Signals (Ky l e).1 then (z0,Jcn l.Signals (Ky l e).1,true) else
  if P (Ky l e).1.El=true then (z0,-1,true) else
  if Jf8 l (Ky l e).1.El=2 then
   (if (Ky l e).1.Side=0 then (z0,-1,false) else if N ⟨(Ky l e).1.El,(Ky l e).1.Side⟩=true then (z0,-1,false) else (⟨(Ky l e).1.El,3 - (Ky l e).1.Side⟩,-1,true))
  else Ji7 l P N n ⟨(Ky l e).1.El,Jnp (Jf8 l (Ky l e).1.El) (Ky l e).1.Side⟩
structure Klh (l:Ja) (f:Jf) (x:Jt):Prop where
 has:Um l f.El=true
 ix:ixO l.Elements f.El=some x
 get:l.Elements[f.El.toNat]? = some x
 kind:Jf8 l f.El=x.Kind
 kinds:x.Kind=1/\(f.Side=0\/f.Side=1)\/x.Kind=2/\(f.Side=0\/f.Side=1\/f.Side=2)\/x.Kind=3/\(f.Side=0\/f.Side=1\/f.Side=2\/f.Side=3)
theorem OkL.joins{l:Ja}(hl:OkL l):Jt0 l:=⟨fun j hj=>⟨(hl.joint j hj).1,(hl.joint j hj).2.1⟩,hl.ends⟩
theorem Job{l:Ja}(hl:OkL l){e:Jf}(h:(Ky l e).2=true):∃ x,Klh l (Ky l e).1 x:=by
 have hex:exS l (Ky l e).1=true:=Jvq hl.joins (e:=e) (f:=(Ky l e).1) (by rw [<- h]);have hh:=Jtw hex;obtain ⟨x,h1,h2⟩:=Vj hh;have hr:=hl.elem.1 x (aC h2);refine ⟨x,hh,h1,h2,by simp [Jf8,h2], ?_⟩;simp only [exS,h2,aI,decide_eq_true_eq] at hex;obtain ⟨⟨_,hs⟩,ht⟩:=hex;have hk:=hr.1;unfold Jc9 at ht;rcases (show x.Kind=1\/x.Kind=2\/x.Kind=3 by omega) with e1|e1|e1 <;> simp only [e1] at ht ⊢ <;> simp at ht ⊢ <;> omega
theorem Jzn{k a:Int}(h:k=1/\(a=0\/a=1)\/k=3/\(a=0\/a=1\/a=2\/a=3)):Jcy k a 0=some (Jnp k a,true):=by
 rcases h with ⟨rfl,rfl|rfl⟩|⟨rfl,rfl|rfl|rfl|rfl⟩ <;> kernel_rfl
theorem Kkd{r:Jh}(h:Jii r){f:Jf}(hs:f.Side=1\/f.Side=2) :
  Xt r f=some (if Jmj r ⟨f.El,f.Side⟩=true then (z0,-1,false) else (⟨f.El,3 - f.Side⟩,-1,true)):=by
 unfold Xt;rcases hs with hs|hs
 ·simp only [hs,show decide ((1:Int)=2)=false from rfl,cond_false,onInl,Vm,aA,Jgk h];cases hn:Jmj r ⟨f.El,1⟩ <;> simp [z0]
 ·simp only [hs,show decide ((2:Int)=2)=true from rfl,cond_true,onInl,Vm,aA,Jgk h];cases hn:Jmj r ⟨f.El,2⟩ <;> simp [z0,Vm,hn]
section
variable {l:Ja} (hs:Sm l) (hl:OkL l) {r:Jh} (hr:Jii r)
include hs hl hr
theorem Jzc : ∀ (n i:Nat) (e:Jf),i+n=4 ->
  onInl (α:=Unit) (β:=(Jg×Int×Bool)) (Jp (Qj l r) ((i:Int),e.El,e.Side)) (fun _=>some (z0,-1,false))=some (Ji7 l (Sy r) (Jmj r) n e):=by
 intro n;induction n with
 | zero=>
  intro i e hi;have:i=4:=by omega
  subst this;have hstep:Qj l r ((4:Nat),e.El,e.Side)=some (.inr (.inl ())):=rfl;rw [Qd hstep]; rfl
 | succ n ih=>
  intro i e hi;have hi4:decide ((i:Int)<4)=true:=decide_eq_true oG;have hov:=Jyz hr (Ky l e).1.El;unfold Ji7
  by_cases hj:(Ky l e).2=false
  ·have hstep:Qj l r ((i:Int),e.El,e.Side)=some (.inr (.inr (z0,-1,true))):=by
    unfold Qj;simp only [hi4,cond_true,Vv hs.jo,aA,hj,cH,cond_true]; rfl
   rw [Qd hstep,if_pos hj]; rfl
  ·have hj':(Ky l e).2=true:=by simpa using hj
   obtain ⟨x,hx⟩:=Job hl hj';rw [if_neg hj]
   by_cases hg:0<=Jcn l.Signals (Ky l e).1
   ·have hstep:Qj l r ((i:Int),e.El,e.Side)=some (.inr (.inr (z0,Jcn l.Signals (Ky l e).1,true))):=by
     unfold Qj;simp only [hi4,cond_true,Vv hs.jo,aA,hj',aX,cond_false,Gh hs.sg,decide_eq_true hg]; rfl
    rw [Qd hstep,if_pos hg]; rfl
   ·rw [if_neg hg];have hg':decide (0<=Jcn l.Signals (Ky l e).1)=false:=decide_eq_false hg;have hpa:=hr.path;have hpo:=hr.over;have o1:=Tq r.Path (Ky l e).1.El oG;have o2:=Tq r.Over (Ky l e).1.El oG
    by_cases hp:Sy r (Ky l e).1.El=true
    ·have hstep:Qj l r ((i:Int),e.El,e.Side)=some (.inr (.inr (z0,-1,true))):=by
      unfold Qj;simp only [Sy] at hp;simp only [hi4,cond_true,Vv hs.jo,aA,hj',aX,cond_false,Gh hs.sg,hg',o1,o2,Jdn,bK,hp]; rfl
     rw [Qd hstep,if_pos hp]; rfl
    ·rw [if_neg hp];have hp':(ovB r.Path (Ky l e).1.El||ovB r.Over (Ky l e).1.El)=false:=by simpa [Sy] using hp
     have hin:=hx.has;simp only [Um,aI,decide_eq_true_eq] at hin;have d1:decide ((Ky l e).1.El<0)=false:=decide_eq_false oG;have d2:decide (((l.Elements.length:Nat):Int)<=(Ky l e).1.El)=false:=decide_eq_false oG;have hk:=hx.kinds
     by_cases h2:Jf8 l (Ky l e).1.El=2
     ·rw [if_pos h2];rw [hx.kind] at h2
      by_cases h0:(Ky l e).1.Side=0
      ·have hstep:Qj l r ((i:Int),e.El,e.Side)=some (.inr (.inr (z0,-1,false))):=by
        unfold Qj;simp only [hi4,cond_true,Vv hs.jo,aA,hj',aX,cond_false,Gh hs.sg,hg',o1,o2,Jdn,bK,hp',d1,d2,Bool.false_or,hx.ix,h2,h0,decide_true,Bool.and_self]; rfl
       rw [Qd hstep,if_pos h0]; rfl
      ·have hsd:(Ky l e).1.Side=1\/(Ky l e).1.Side=2:=by omega
       rw [if_neg h0];have hstep:Qj l r ((i:Int),e.El,e.Side)=some (.inr (.inr (if Jmj r ⟨(Ky l e).1.El,(Ky l e).1.Side⟩=true then (z0,-1,false) else (⟨(Ky l e).1.El,3 - (Ky l e).1.Side⟩,-1,true)))):=by
        unfold Qj;simp only [hi4,cond_true,Vv hs.jo,aA,hj',aX,cond_false,Gh hs.sg,hg',o1,o2,Jdn,bK,hp',d1,d2,Bool.false_or,hx.ix,h2,h0,decide_true,decide_false,Bool.and_false,Kkd hr hsd]
       rw [Qd hstep]; rfl
     ·rw [if_neg h2];rw [hx.kind] at h2 ⊢;have hka:x.Kind=1/\((Ky l e).1.Side=0\/(Ky l e).1.Side=1)\/x.Kind=3/\((Ky l e).1.Side=0\/(Ky l e).1.Side=1\/(Ky l e).1.Side=2\/(Ky l e).1.Side=3):=by omega
      have hstep:Qj l r ((i:Int),e.El,e.Side)=some (.inl (((i+1:Nat):Int),(Ky l e).1.El,Jnp x.Kind (Ky l e).1.Side)):=by
       unfold Qj;simp only [hi4,cond_true,Vv hs.jo,aA,hj',aX,cond_false,Gh hs.sg,hg',o1,o2,Jdn,bK,hp',d1,d2,Bool.false_or,hx.ix,h2,decide_false,fE,Jzn hka];rw [Zi oG]
      rw [Vq hstep];exact ih (i+1) ⟨(Ky l e).1.El,Jnp x.Kind (Ky l e).1.Side⟩ oG
theorem Jnj(e:Jf):Pu l r e=some (Ji7 l (Sy r) (Jmj r) 4 e):=Jzc hs hl hr 4 0 e rfl
end
def Ken(l:Ja)(s:Jb):List Jf :=
 bif (Jem l s).2 then ((List.range (Jc9 (Jf8 l s.El)).toNat).filter fun (i:Nat)=> !decide ((i:Int)=s.In) && !decide ((i:Int)=s.Out)).map fun (i:Nat)=>(⟨s.El,(i:Int)⟩:Jf) else []
theorem Jxd(k:Int):0<=Jc9 k/\Jc9 k<=4:=by
 unfold Jc9; split
 ·omega
 ·split
  ·omega
  ·split <;> omega
theorem Joe(l:Ja)(s:Jb):(Ken l s).length<=4:=by
 unfold Ken;cases (Jem l s).2 with
 | false=>simp
 | true=>
  have:=Jxd (Jf8 l s.El);simp only [cond_true,aV];exact bG (bZ _ _) (by simp; omega)
theorem Je7(l:Ja)(s:Jb)(hkk:∀ x,l.Elements[s.El.toNat]? = some x->x.Kind=1\/x.Kind=2\/x.Kind=3):Cb l s=some (Ken l s):=by
 unfold Cb Ken;simp only [Jdn,aA,bK];have e:(decide (s.El<0)||decide (((l.Elements.length:Nat):Int)<=s.El)) = !Um l s.El:=by
  unfold Um; rw [dA]; simp
 rw [e];cases h:Um l s.El with
 | false=>simp [Jem,h]
 | true=>
  obtain ⟨x,h1,h2⟩:=Vj h;have hk:Jf8 l s.El=x.Kind:=by simp [Jf8,h2]
  have hp:Jem l s=Pi x.Kind s.In s.Out:=by simp [Jem,h,h2]
  simp only [aX,cond_false,h1,aA,Ob,hp,hk];have h4:=Jxd x.Kind;obtain ⟨m,hm⟩:∃ m:Nat,Jc9 x.Kind=(m:Int):=⟨(Jc9 x.Kind).toNat,by omega⟩
  rw [hm];simp only [cP];have:Is (Jp (Eg s x (Pi x.Kind s.In s.Out)) (0,([]:List Jf))) fun o=>o=.inl (bif (Pi x.Kind s.In s.Out).2 then (((List.range m).filter fun (i:Nat)=> !decide ((i:Int)=s.In) && !decide ((i:Int)=s.Out)).map fun (i:Nat)=>(⟨s.El,(i:Int)⟩:Jf)) else []):=by
   refine Is.loop (mk:=fun (i:Nat) (o:List Jf)=>((i:Int),o)) m (fun i o=>o=bif (Pi x.Kind s.In s.Out).2 then (((List.range i).filter fun (i:Nat)=> !decide ((i:Int)=s.In) && !decide ((i:Int)=s.Out)).map fun (i:Nat)=>(⟨s.El,(i:Int)⟩:Jf)) else []) [] (by cases (Pi x.Kind s.In s.Out).2 <;> simp) ?_ ?_
   ·rintro i o hi rfl;unfold Eg;have e0:decide ((i:Int)<((m:Nat):Int))=true:=decide_eq_true oG;simp only [Jbq,hm,aA,e0,cond_true];refine Is.onInl (θ:=fun o=>o=.inl (bif (Pi x.Kind s.In s.Out).2 then (((List.range (i+1)).filter fun (i:Nat)=> !decide ((i:Int)=s.In) && !decide ((i:Int)=s.Out)).map fun (i:Nat)=>(⟨s.El,(i:Int)⟩:Jf)) else [])) ?_ (fun v hv=>?_) (fun b hb=>by cases hb)
    ·cases hn:(Pi x.Kind s.In s.Out).2 with
     | false=>simp only [fE,cond_false]; exact Is.val rfl
     | true=>
      simp only [eZ,cond_true];rw [List.range_succ,cS,cL];refine Is.cond (fun hc=>?_) (fun hc=>?_)
      ·have hlen:(((List.range i).filter fun (i:Nat)=> !decide ((i:Int)=s.In) && !decide ((i:Int)=s.Out)).map fun (i:Nat)=>(⟨s.El,(i:Int)⟩:Jf)).length<=4:=by
        rw [aV]; exact bG (bZ _ _) (by simp; omega)
       refine Is.bind (Is.app (by simp only [aE,aF,Js,Enc.b]; omega)) fun M hM=>?_;subst hM;exact Is.val (by simp [hc])
      ·exact Is.val (by simp [hc])
    ·cases hv;exact Is.val ⟨_,by rw [Zi oG],rfl⟩
   ·rintro o rfl;unfold Eg;have e0:decide (((m:Nat):Int)<((m:Nat):Int))=false:=decide_eq_false oG;simp only [Jbq,hm,aA,e0,cond_false];exact Is.val rfl
  obtain ⟨o,q1,rfl⟩:=this;simp [q1,onInl,Vm]
def Ha(l:Ja)(L:List Jb):List Jf:=L.flatMap (Ken l)
theorem Jer(l:Ja)(A B:List Jb):Ha l (A++B)=Ha l A++Ha l B:=by simp [Ha]
theorem Jbf(l:Ja):∀ L:List Jb,(Ha l L).length<=4 * L.length
 | []=>by simp [Ha]
 | s::r=>by
  have h1:=Joe l s;have h2:=Jbf l r;simp only [Ha,dY,aH,aE] at h2 ⊢; omega
theorem Jxw{l:Ja}(hl:OkL l)(s:Jb)(x:Jt)(h:l.Elements[s.El.toNat]? = some x):x.Kind=1\/x.Kind=2\/x.Kind=3:=by
 have:=(hl.elem.1 x (aC h)).1; omega
theorem Jq1{l:Ja}(hl:OkL l){r:Jh}(h:Jii r):Na l r=some (Ha l (r.Path++r.Over)):=by
 have hp:=h.path;have ho:=h.over;have h1:Is (Jp (Gb l r) (0,([]:List Jf))) fun o=>o=.inl (Ha l r.Path):=by
  refine Is.loop (mk:=fun (i:Nat) (o:List Jf)=>((i:Int),o)) r.Path.length (fun i o=>o=Ha l (r.Path.take i)) [] (by simp [Ha]) ?_ ?_
  ·rintro i o hi rfl;unfold Gb;obtain ⟨s,hs⟩:∃ y,r.Path[i]? = some y:=⟨_,aB hi⟩
   have e0:decide ((i:Int)<((r.Path.length:Nat):Int))=true:=decide_eq_true oG;have hlen:=Jbf l (r.Path.take i);have hb:=Joe l s;rw [aT] at hlen;simp only [Vc hs,e0,cond_true,aA,Je7 l s (Jxw hl s)];refine Is.bind (Is.app (by simp only [Js,Enc.b]; omega)) fun M hM=>?_;subst hM;refine Is.val ⟨_,by rw [Zi oG], ?_⟩;rw [Vp hs,Jer]; simp [Ha]
  ·rintro o rfl;unfold Gb;have e0:decide (((r.Path.length:Nat):Int)<((r.Path.length:Nat):Int))=false:=decide_eq_false oG;simp only [e0,cond_false];exact Is.val (by rw [aR])
 have h2:Is (Jp (Fs l r) (Ha l r.Path,0)) fun o=>o=.inl (Ha l r.Path++Ha l r.Over):=by
  have hpl:=Jbf l r.Path;refine Is.loop (mk:=fun (i:Nat) (o:List Jf)=>(o,(i:Int))) r.Over.length (fun i o=>o=Ha l r.Path++Ha l (r.Over.take i)) (Ha l r.Path) (by simp [Ha]) ?_ ?_
  ·rintro i o hi rfl;unfold Fs;obtain ⟨s,hs⟩:∃ y,r.Over[i]? = some y:=⟨_,aB hi⟩
   have e0:decide ((i:Int)<((r.Over.length:Nat):Int))=true:=decide_eq_true oG;have hlen:=Jbf l (r.Over.take i);have hb:=Joe l s;rw [aT] at hlen;simp only [Vc hs,e0,cond_true,aA,Je7 l s (Jxw hl s)];refine Is.bind (Is.app (by simp only [Js,Enc.b,aH]; omega)) fun M hM=>?_;subst hM;refine Is.val ⟨_,by rw [Zi oG], ?_⟩;rw [Vp hs,Jer,bC]; simp [Ha]
  ·rintro o rfl;unfold Fs;have e0:decide (((r.Over.length:Nat):Int)<((r.Over.length:Nat):Int))=false:=decide_eq_false oG;simp only [e0,cond_false];exact Is.val (by rw [aR])
 obtain ⟨o1,q1,rfl⟩:=h1;obtain ⟨o2,q2,rfl⟩:=h2;unfold Na;rw [q1];simp only [onInl,Vm,aA,q2,Jer]
structure FG where
 flank:List Jg
 guards:List Int
 gaps:List Jf
def Jg8(x:FG)(e:Jf)(s:Jg×Int×Bool):FG :=
 if s.2.2=false then ⟨x.flank,x.guards,x.gaps++[e]⟩ else
 if 0<=s.2.1 then ⟨x.flank,x.guards++[s.2.1],x.gaps⟩ else
 if s.1=z0 then x else ⟨x.flank++[s.1],x.guards,x.gaps⟩
def Jfd(N:Jg->Bool)(x:FG)(s:Jg):Bool:=N s||Jpo x.flank s
def Jc1(l:Ja)(P:Int->Bool)(N:Jg->Bool):List Jf->FG->FG
 | [],x=>x
 | e::r,x=>Jc1 l P N r (Jg8 x e (Ji7 l P (Jfd N x) 4 e))
theorem Jjx(l:Ja)(P:Int->Bool)(N:Jg->Bool):∀ (A B:List Jf) (x:FG),Jc1 l P N (A++B) x=Jc1 l P N B (Jc1 l P N A x)
 | [],_,_=>rfl
 | e::A,B,x=>Jjx l P N A B _
structure Kcy (x:FG) (n:Nat):Prop where
 flank:x.flank.length<=n
 guards:x.guards.length<=n
 gaps:x.gaps.length<=n
theorem Kcz{x:FG}{n:Nat}(h:Kcy x n)(e:Jf)(s:Jg×Int×Bool):Kcy (Jg8 x e s) (n+1):=by
 have h1:=h.flank;have h2:=h.guards;have h3:=h.gaps;unfold Jg8;split
 ·exact ⟨by simp only; omega,by simp only; omega,by simp; omega⟩
 ·split
  ·exact ⟨by simp only; omega,by simp; omega,by simp only; omega⟩
  ·split
   ·exact ⟨by omega,by omega,by omega⟩
   ·exact ⟨by simp; omega,by simp only; omega,by simp only; omega⟩
theorem Jkx(l:Ja)(P:Int->Bool)(N:Jg->Bool):∀ (A:List Jf) (x:FG) (n:Nat),Kcy x n->Kcy (Jc1 l P N A x) (n+A.length)
 | [],x,n,h=>h
 | e::A,x,n,h=>by
  have:=Jkx l P N A _ (n+1) (Kcz h e (Ji7 l P (Jfd N x) 4 e));rw [aE,show n+(A.length+1)=n+1+A.length by omega];exact this
def Jk3(r:Jh)(s:Jg):Bool:=Jpo r.Points s||Jpo r.OverPoints s
def fg0 : FG:=⟨[],[],[]⟩
def Joo(l:Ja)(r:Jh):FG:=Jc1 l (Sy r) (Jk3 r) (Ha l (r.Path++r.Over)) fg0
def Jks(r:Jh)(x:FG):Jh:=⟨r.Name,r.Entry,r.Exit,r.Path,r.Points,r.Sections,r.Approach,r.Length,r.Over,r.OverPoints,r.OverSections,x.flank,x.guards,x.gaps⟩
theorem Jiq{r:Jh}(h:Jii r){x:FG}(hx:Kcy x 1000):Jii (Jks r x):=⟨h.path,h.over,h.pts,h.ops,hx.flank,h.secs,h.osecs,hx.guards,hx.gaps⟩
theorem Jz5(r:Jh)(x:FG):Jmj (Jks r x)=Jfd (Jk3 r) x:=rfl
section
variable {l:Ja} (hs:Sm l) (hl:OkL l) {r:Jh} (hr:Jii r)
include hs hl hr
end
def sF(L:List Jg):List Jg:=ddS (L.mergeSort fun x y=> !ltS y x)
def sGq(L:List Int):List Int:=ddS (L.mergeSort fun x y=>decide (x<=y))
theorem Kjy(L:List Jg)(x:Jg):x∈sF L↔x∈L:=by rw [sF,Juy,(dL _ _).mem_iff]
theorem Kkg(L:List Int)(x:Int):x∈sGq L↔x∈L:=by rw [sGq,Juy,(dL _ _).mem_iff]
theorem Kj7(L:List Jg):(sF L).length<=L.length:=bG (Jti _) (by rw [(dL _ _).length_eq]; exact aJ _)
theorem Kj6(L:List Int):(sGq L).length<=L.length:=bG (Jti _) (by rw [(dL _ _).length_eq]; exact aJ _)
theorem Kj8(L:List Jg):Asc (sF L):=by
 refine Jix Jt8 Ju8 _ ?_;have:=List.pairwise_mergeSort (le:=fun x y=> !ltS y x) (fun a b c h1 h2=>?_) (fun a b=>?_) L
 ·exact this.imp fun h=>by simpa using h
 ·simp only [Jb5,bL,decide_eq_false_iff_not] at *; omega
 ·cases h:ltS b a with
  | false=>rfl
  | true=>
   have:ltS a b=false:=by rw [Jb5,decide_eq_true_iff] at h; rw [Jb5,decide_eq_false_iff_not]; omega
   simp [this]
theorem Kka(L:List Int):(sGq L).Pairwise fun x y=>x<y:=by
 have h1:(sGq L).Pairwise fun x y=>decide (x<y)=true:=by
  refine Jix (lt:=fun x y=>decide (x<y)) (fun x y z h1 h2=>by simp at h1 h2 ⊢; omega) (fun x y h=>by simp at h ⊢; omega) _ ?_;have:=List.pairwise_mergeSort (le:=fun (x y:Int)=>decide (x<=y)) (fun a b c h1 h2=>by simp at h1 h2 ⊢; omega) (fun a b=>by simp; omega) L;exact this.imp fun h=>by simp at h ⊢; omega
 exact h1.imp fun h=>by simpa using h
def Kiu(l:Ja)(r:Jh):Jh:=Jks r ⟨sF (Joo l r).flank,sGq (Joo l r).guards,(Joo l r).gaps⟩
theorem Kd1(l:Ja){r:Jh}(hp:r.Path.length<=40)(ho:r.Over.length<=40):Kcy (Joo l r) 400:=by
 have h:=Jkx l (Sy r) (Jk3 r) (Ha l (r.Path++r.Over)) fg0 0 ⟨by simp [fg0],by simp [fg0],by simp [fg0]⟩;have h2:=Jbf l (r.Path++r.Over);rw [aH] at h2;exact ⟨by have:=h.flank; unfold Joo; omega,by have:=h.guards; unfold Joo; omega,by have:=h.gaps; unfold Joo; omega⟩
theorem Kb8(l:Ja){r:Jh}(hr:Jii r)(hp:r.Path.length<=40)(ho:r.Over.length<=40):Jii (Kiu l r):=by
 have hL:=Kd1 l hp ho;refine Jiq hr ⟨?_, ?_,by have:=hL.gaps; simp only; omega⟩
 ·have:=Kj7 (Joo l r).flank; have:=hL.flank; simp only; omega
 ·have:=Kj6 (Joo l r).guards; have:=hL.guards; simp only; omega
structure SrOk (l:Ja) (P:Int->Bool) (N:Jg->Bool) (t:Jg×Int×Bool):Prop where
 guard:0<=t.2.1->t.2.1<(l.Signals.length:Nat)
 set:t.1≠z0->Um l t.1.El=true/\Jf8 l t.1.El=2/\(t.1.Pos=1\/t.1.Pos=2)/\P t.1.El=false/\N ⟨t.1.El,3 - t.1.Pos⟩=false
theorem Kht(L:List Kn)(e:Jf):Jcn L e<(L.length:Nat):=by
 unfold Jcn;split
 ·next i h=>
  have:=(eE.1 h).1;omega
 ·omega
theorem Jtd{l:Ja}(hl:OkL l)(P:Int->Bool)(N:Jg->Bool):∀ (n:Nat) (e:Jf),SrOk l P N (Ji7 l P N n e)
 | 0,e=>⟨fun h=>by simp [Ji7] at h,fun h=>absurd rfl h⟩
 | n+1,e=>by
  unfold Ji7;split
  ·exact ⟨fun h=>by simp at h,fun h=>absurd rfl h⟩
  ·next hj=>
   obtain ⟨x,hx⟩:=Job hl (e:=e) (by simpa using hj);split
   ·exact ⟨fun _=>Kht _ _,fun h=>absurd rfl h⟩
   ·split
    ·exact ⟨fun h=>by simp at h,fun h=>absurd rfl h⟩
    ·next hp=>
     split
     ·next hk=>
      split
      ·exact ⟨fun h=>by simp at h,fun h=>absurd rfl h⟩
      ·next h0=>
       split
       ·exact ⟨fun h=>by simp at h,fun h=>absurd rfl h⟩
       ·next hN=>
        refine ⟨fun h=>by simp at h,fun _=>⟨hx.has,hk, ?_,by simpa using hp, ?_⟩⟩
        ·have:=hx.kinds;rw [hx.kind] at hk;simp only; omega
        ·simp only;rw [show 3 - (3 - (Ky l e).1.Side)=(Ky l e).1.Side by omega]
         simpa using hN
     ·exact Jtd hl P N n _
structure Kis (l:Ja) (P:Int->Bool) (x:FG):Prop where
 flank:∀ y∈x.flank,Um l y.El=true/\Jf8 l y.El=2/\(y.Pos=1\/y.Pos=2)/\P y.El=false
 one:∀ y∈x.flank,∀ z∈x.flank,y.El=z.El->y=z
 guards:∀ g∈x.guards,0<=g/\g<(l.Signals.length:Nat)
theorem Jxo{l:Ja}{P:Int->Bool}{N:Jg->Bool}{x:FG}(h:Kis l P x)(e:Jf){t:Jg×Int×Bool}(ht:SrOk l P (Jfd N x) t):Kis l P (Jg8 x e t):=by
 unfold Jg8;split
 ·exact ⟨h.flank,h.one,h.guards⟩
 ·split
  ·next h2=>
   refine ⟨h.flank,h.one,fun g hg=>?_⟩;rcases aY.1 hg with hg|hg
   ·exact h.guards g hg
   ·simp at hg; subst hg; exact ⟨h2,ht.guard h2⟩
  ·split
   ·exact h
   ·next h3=>
    obtain ⟨g1,g2,g3,g4,g5⟩:=ht.set h3;have key:∀ y∈x.flank,y.El=t.1.El->y=t.1:=by
     intro y hy ey;have h1:=(h.flank y hy).2.2.1;have hn:y≠⟨t.1.El,3 - t.1.Pos⟩:=by
      rintro rfl;have:Jpo x.flank ⟨t.1.El,3 - t.1.Pos⟩=true:=decide_eq_true hy;simp only [Jfd,this,Bool.or_true] at g5;cases g5
     obtain ⟨a,b⟩:=y;generalize t.1=u at ey g3 hn ⊢;obtain ⟨c,d⟩:=u;simp only at ey h1 g3 hn;subst ey;have:b=d:=by
      rcases h1 with rfl|rfl <;> rcases g3 with rfl|rfl <;> first|rfl|exact absurd rfl hn
     rw [this]
    refine ⟨fun y hy=>?_,fun y hy z hz ez=>?_,h.guards⟩
    ·rcases aY.1 hy with hy|hy
     ·exact h.flank y hy
     ·simp at hy; subst hy; exact ⟨g1,g2,g3,g4⟩
    ·rcases aY.1 hy with hy|hy <;> rcases aY.1 hz with hz|hz
     ·exact h.one y hy z hz ez
     ·simp at hz; subst hz; exact key y hy ez
     ·simp at hy; subst hy; exact (key z hz ez.symm).symm
     ·simp at hy hz; rw [hy,hz]
theorem Jyi{l:Ja}(hl:OkL l)(P:Int->Bool)(N:Jg->Bool):∀ (A:List Jf) (x:FG),Kis l P x->Kis l P (Jc1 l P N A x)
 | [],_,h=>h
 | e::A,x,h=>Jyi hl P N A _ (Jxo h e (Jtd hl P (Jfd N x) 4 e))
def Jdp(l:List Int):Prop:=l.Pairwise (·<·)
theorem Jdp.one{a b:List Int}(ha:Jdp a)(hb:Jdp b)(h:∀ x,x∈a↔x∈b):a=b :=
 Tz (lt:=fun x y=>decide (x<y)) (fun x=>by simp) (fun x y z h1 h2=>by simp at h1 h2 ⊢; omega) a b (ha.imp fun h=>decide_eq_true h) (hb.imp fun h=>decide_eq_true h) h
theorem Jdp.at{L:List Int}(h:Jdp L){i j:Nat}{x y:Int}(hx:L[i]? = some x)(hy:L[j]? = some y)(hij:i<j):x<y:=by
 have h1:=Qs hx;have h2:=Qs hy;rw [aB h1] at hx; cases hx;rw [aB h2] at hy; cases hy;exact (dC.1 h) i j h1 h2 hij
theorem Jec(L:List Int)(x:Int)(h:L.length<=1048576):Oq L x=some (decide (x∈L)):=by
 unfold Oq;rw [Jd6 (fun y=>decide (y=x)) (fun _=>.inr true) (.inl ()) L oG]
 ·cases hf:L.find? (fun y=>decide (y=x)) with
  | none=>
   rw [List.find?_eq_none] at hf;have:¬ x∈L:=fun hx=>hf x hx sG;simp [onInl,Vm,this]
  | some y=>
   have h1:=eB hf;have h2:=List.find?_some hf;simp only [decide_eq_true_eq] at h2;subst h2;simp [onInl,Vm,h1]
 ·intro i y hy;have hi:=Qs hy;simp only [Tw,Vc hy,show decide ((i:Int)<((L.length:Nat):Int))=true by simp; omega,cond_true,aA]
 ·simp [Tw]
structure Kk0 (L:List Int) (x:Int) (i:Nat) (d:Bool) (o:List Int):Prop where
 asc:Jdp o
 mem:∀ y,y∈o↔y∈L.take i\/(d=true/\y=x)
 len:o.length<=i+1
 no:d=false->∀ y∈L.take i,y<x
 yes:d=true->∀ (j:Nat) y,i<=j->L[j]? = some y->x<y
theorem Khs{L:List Int}(h:Jdp L){i:Nat}{y z:Int}(hy:L[i]? = some y)(hz:z∈L.take i):z<y:=by
 obtain ⟨j,hj⟩:=List.mem_iff_getElem?.1 hz;have h1:=Qs hj;rw [aT] at h1;rw [bS] at hj;split at hj
 ·exact h.at hj hy oG
 ·cases hj
theorem Jfj(L:List Int)(x:Int)(hL:Jdp L)(h:L.length<=1000000):Is (Ef L x) fun M=>Jdp M/\(∀ y,y∈M↔y∈L\/y=x)/\M.length<=L.length+1:=by
 unfold Ef;rw [Jec L x oG,aA];refine Is.ite (p:=x∈L) Km (fun hx=>Is.val ⟨hL,fun y=>⟨.inl, ?_⟩,by omega⟩) (fun hx=>?_)
 ·rintro (h|rfl)
  ·exact h
  ·exact hx
 refine Is.onInl (θ:=fun o=>∃ r,o=.inl r/\Kk0 L x L.length r.2 r.1) ?_ ?_ (fun b hb=>by obtain ⟨_,hb,_⟩:=hb; cases hb)
 ·refine Is.loop (mk:=fun (i:Nat) (s:Bool×List Int)=>(s.1,(i:Int),s.2)) L.length (fun i s=>Kk0 L x i s.1 s.2) (false,[]) ⟨List.Pairwise.nil,fun y=>by simp,by simp,fun _ y hy=>by simp at hy,fun h=>by cases h⟩ ?_ ?_
  ·rintro i ⟨d,o⟩ hi hI;unfold Lr;simp only at hI;obtain ⟨y,hy⟩:∃ y,L[i]? = some y:=⟨_,aB hi⟩
   have hlen:=hI.len;have hmem:y∈L:=aC hy;have e0:decide ((i:Int)<((L.length:Nat):Int))=true:=decide_eq_true oG;simp only [Vc hy,e0,cond_true,aA,Gq,dF];refine Is.onInl (θ:=fun v=>∃ r,v=.inl r/\r.1.length<=i+2 - 1+1 - 1+1/\Kk0 L x (i+1) r.2 (r.1++[y])) ?_ ?_ (fun b hb=>by obtain ⟨_,hb,_⟩:=hb; cases hb)
   ·refine Is.cond (fun hc=>?_) (fun hc=>?_)
    ·simp only [aI,bL,decide_eq_true_eq] at hc;obtain ⟨rfl,hc⟩:=hc;have hol:o.length<=i:=by
      have e:o=L.take i:=hI.asc.one (hL.sublist (List.take_sublist i L)) (fun z=>by rw [hI.mem]; simp);rw [e,aT]; omega
     refine Is.bind (Is.app (by simp only [aE,aF,Js,Enc.b]; omega)) fun M hM=>?_;subst hM;refine Is.val ⟨_,rfl,by simp; omega, ?_⟩;refine ⟨?_,fun z=>?_,by simp; omega,fun h=>(by cases h),fun _ j z hj hz=>?_⟩
     ·unfold Jdp;rw [bC,aZ];refine ⟨hI.asc,by simp [hc],fun a ha b hb=>?_⟩;have h1:a∈L.take i:=by
       have:=(hI.mem a).1 ha;rcases this with h|⟨h,_⟩
       ·exact h
       ·cases h
      have h2:=hI.no rfl a h1;simp at hb;rcases hb with rfl|rfl <;> omega
     ·rw [Vp hy];simp only [aY,cA,hI.mem,aQ,false_and,or_false,true_and];exact or_right_comm
     ·by_cases e:j=i
      ·subst e; rw [hy] at hz; cases hz; exact hc
      ·exact Int.lt_trans hc (hL.at hy hz oG)
    ·have hol:o.length<=i+1:=hI.len;refine Is.val ⟨_,rfl,by simp; omega, ?_⟩;have hd:d=false->y<x:=by
      rintro rfl;simp only [cH,eZ,decide_eq_false_iff_not] at hc;have:y≠x:=fun e=>hx (e▸hmem);omega
     refine ⟨?_,fun z=>?_, ?_,fun h z hz=>?_,fun h j z hj hz=>hI.yes h j z oG hz⟩
     ·unfold Jdp;rw [aZ];refine ⟨hI.asc,by simp,fun a ha b hb=>?_⟩;simp at hb; subst hb;rcases (hI.mem a).1 ha with h|⟨h,rfl⟩
      ·exact Khs hL hy h
      ·exact hI.yes h i _ (aJ _) hy
     ·rw [Vp hy];simp only [aY,cA,hI.mem];exact or_right_comm
     ·simp; omega
     ·rw [Vp hy] at hz;rcases aY.1 hz with hz|hz
      ·exact hI.no h z hz
      ·simp at hz; subst hz; exact hd h
   ·rintro ⟨o',d'⟩ ⟨r,hr,hl,hI'⟩;cases hr;refine Is.bind (Is.app (by simp only [aE,aF,Js,Enc.b]; simp only at hl; omega)) fun M hM=>?_;subst hM;exact Is.val ⟨(d',o'++[y]),by rw [Zi oG],hI'⟩
  ·rintro ⟨d,o⟩ hI;unfold Lr;have e0:decide (((L.length:Nat):Int)<((L.length:Nat):Int))=false:=decide_eq_false oG;simp only [e0,cond_false];exact Is.val ⟨_,rfl,hI⟩
 ·rintro ⟨o,d⟩ ⟨r,hr,hI⟩;cases hr;simp only at hI;have hlen:=hI.len;refine Is.onInl (θ:=fun v=>∃ M,v=.inl M/\Jdp M/\(∀ y,y∈M↔y∈L\/y=x)/\M.length<=L.length+1) ?_ (fun v hv=>?_) (fun b hb=>by obtain ⟨_,hb,_⟩:=hb; cases hb)
  ·cases d with
   | true=>
    simp only [aX,cond_false];exact Is.val ⟨_,rfl,hI.asc,fun y=>by rw [hI.mem]; simp,hlen⟩
   | false=>
    have hol:o=L:=hI.asc.one hL (fun z=>by rw [hI.mem]; simp);subst hol;simp only [cH,cond_true];refine Is.bind (Is.app (by simp only [aE,aF,Js,Enc.b]; omega)) fun M hM=>?_;subst hM;refine Is.val ⟨_,rfl, ?_,fun y=>by simp,by simp⟩;unfold Jdp;rw [aZ];refine ⟨hL,by simp,fun a ha b hb=>?_⟩;simp at hb; subst hb;exact hI.no rfl a (by rw [aR]; exact ha)
  ·obtain ⟨M,rfl|_,h1,h2,h3⟩:=hv;exact Is.val ⟨h1,h2,h3⟩
theorem Jrn(L:List Int)(h:L.length<=1000000):Is (Sh L) fun M=>Jdp M/\∀ y,y∈M↔y∈L:=by
 unfold Sh;refine Is.onInl (θ:=fun o=>∃ M,o=.inl M/\Jdp M/\(∀ y,y∈M↔y∈L)) ?_ (fun v hv=>?_) (fun b hb=>by obtain ⟨_,hb,_⟩:=hb; cases hb)
 ·first
   | refine Is.loop (mk:=fun (i:Nat) (o:List Int)=>(o,(i:Int))) L.length (fun i o=>Jdp o/\(∀ y,y∈o↔y∈L.take i)/\o.length<=i) [] ⟨List.Pairwise.nil,fun y=>by simp,by simp⟩ ?_ ?_
   | refine Is.loop (mk:=fun (i:Nat) (o:List Int)=>((i:Int),o)) L.length (fun i o=>Jdp o/\(∀ y,y∈o↔y∈L.take i)/\o.length<=i) [] ⟨List.Pairwise.nil,fun y=>by simp,by simp⟩ ?_ ?_
  ·rintro i o hi ⟨h1,h2,h3⟩;unfold Rl;obtain ⟨y,hy⟩:∃ y,L[i]? = some y:=⟨_,aB hi⟩
   have e0:decide ((i:Int)<((L.length:Nat):Int))=true:=decide_eq_true oG;simp only [Vc hy,e0,cond_true,aA];refine Is.bind (Jfj o y h1 oG) fun M hM=>?_;refine Is.val ⟨_,by rw [Zi oG],hM.1,fun z=>?_,by have:=hM.2.2; omega⟩;rw [hM.2.1,h2,Vp hy]; simp
  ·rintro o ⟨h1,h2,h3⟩;unfold Rl;have e0:decide (((L.length:Nat):Int)<((L.length:Nat):Int))=false:=decide_eq_false oG;simp only [e0,cond_false];exact Is.val ⟨_,rfl,h1,fun y=>by rw [h2,aR]⟩
 ·obtain ⟨M,rfl|_,h1,h2⟩:=hv;exact Is.val ⟨h1,h2⟩
def Jhq(l:List Jg):Prop:=l.Pairwise fun x y=>x.El<y.El
theorem Jhq.one{a b:List Jg}(ha:Jhq a)(hb:Jhq b)(h:∀ x,x∈a↔x∈b):a=b :=
 Tz (lt:=fun x y=>decide (x.El<y.El)) (fun x=>by simp) (fun x y z h1 h2=>by simp at h1 h2 ⊢; omega) a b (ha.imp fun h=>decide_eq_true h) (hb.imp fun h=>decide_eq_true h) h
theorem Jhq.at{L:List Jg}(h:Jhq L){i j:Nat}{x y:Jg}(hx:L[i]? = some x)(hy:L[j]? = some y)(hij:i<j):x.El<y.El:=by
 have h1:=Qs hx;have h2:=Qs hy;rw [aB h1] at hx; cases hx;rw [aB h2] at hy; cases hy;exact (dC.1 h) i j h1 h2 hij
theorem Jhq.asc{L:List Jg}(h:Jhq L):Asc L:=h.imp fun {x y} hxy=>by rw [Jb5,decide_eq_true_iff]; exact .inl hxy
structure Kkj (L:List Jg) (x:Jg) (i:Nat) (d:Bool) (o:List Jg):Prop where
 asc:Jhq o
 mem:∀ y,y∈o↔y∈L.take i\/(d=true/\y=x)
 len:o.length<=i+1
 no:d=false->∀ y∈L.take i,y.El<x.El
 yes:d=true->∀ (j:Nat) y,i<=j->L[j]? = some y->x.El<y.El
theorem Kd4{L:List Jg}(h:Jhq L){i:Nat}{y z:Jg}(hy:L[i]? = some y)(hz:z∈L.take i):z.El<y.El:=by
 obtain ⟨j,hj⟩:=List.mem_iff_getElem?.1 hz;have h1:=Qs hj;rw [aT] at h1;rw [bS] at hj;split at hj
 ·exact h.at hj hy oG
 ·cases hj
theorem Jva(L:List Jg)(x:Jg)(hL:Jhq L)(hne:x∈L\/∀ y∈L,y.El≠x.El)(h:L.length<=1000000):Is (Jab L x) fun M=>Jhq M/\(∀ y,y∈M↔y∈L\/y=x)/\M.length<=L.length+1:=by
 unfold Jab;rw [Ja5 L x oG,aA];refine Is.ite (p:=x∈L) (show Jpo L x=true↔x∈L from Km) (fun hx=>Is.val ⟨hL,fun y=>⟨.inl, ?_⟩,by omega⟩) (fun hx=>?_)
 ·rintro (h|rfl)
  ·exact h
  ·exact hx
 have hne:∀ y∈L,y.El≠x.El:=hne.resolve_left hx;refine Is.onInl (θ:=fun o=>∃ r,o=.inl r/\Kkj L x L.length r.2 r.1) ?_ ?_ (fun b hb=>by obtain ⟨_,hb,_⟩:=hb; cases hb)
 ·refine Is.loop (mk:=fun (i:Nat) (s:Bool×List Jg)=>(s.1,(i:Int),s.2)) L.length (fun i s=>Kkj L x i s.1 s.2) (false,[]) ⟨List.Pairwise.nil,fun y=>by simp,by simp,fun _ y hy=>by simp at hy,fun h=>by cases h⟩ ?_ ?_
  ·rintro i ⟨d,o⟩ hi hI;unfold Xd;simp only at hI;obtain ⟨y,hy⟩:∃ y,L[i]? = some y:=⟨_,aB hi⟩
   have hlen:=hI.len;have hmem:y∈L:=aC hy;have e0:decide ((i:Int)<((L.length:Nat):Int))=true:=decide_eq_true oG;simp only [Vc hy,e0,cond_true,aA,Gq,dF];refine Is.onInl (θ:=fun v=>∃ r,v=.inl r/\r.1.length<=i+2 - 1+1 - 1+1/\Kkj L x (i+1) r.2 (r.1++[y])) ?_ ?_ (fun b hb=>by obtain ⟨_,hb,_⟩:=hb; cases hb)
   ·refine Is.cond (fun hc=>?_) (fun hc=>?_)
    ·simp only [aI,bL,decide_eq_true_eq] at hc;obtain ⟨rfl,hc⟩:=hc;have hol:o.length<=i:=by
      have e:o=L.take i:=hI.asc.one (hL.sublist (List.take_sublist i L)) (fun z=>by rw [hI.mem]; simp);rw [e,aT]; omega
     refine Is.bind (Is.app (by simp only [aE,aF,Js,Enc.b]; omega)) fun M hM=>?_;subst hM;refine Is.val ⟨_,rfl,by simp; omega, ?_⟩;refine ⟨?_,fun z=>?_,by simp; omega,fun h=>(by cases h),fun _ j z hj hz=>?_⟩
     ·unfold Jhq;rw [bC,aZ];refine ⟨hI.asc,by simp [hc],fun a ha b hb=>?_⟩;have h1:a∈L.take i:=by
       have:=(hI.mem a).1 ha;rcases this with h|⟨h,_⟩
       ·exact h
       ·cases h
      have h2:=hI.no rfl a h1;simp at hb;rcases hb with rfl|rfl <;> omega
     ·rw [Vp hy];simp only [aY,cA,hI.mem,aQ,false_and,or_false,true_and];exact or_right_comm
     ·by_cases e:j=i
      ·subst e; rw [hy] at hz; cases hz; exact hc
      ·exact Int.lt_trans hc (hL.at hy hz oG)
    ·have hol:o.length<=i+1:=hI.len;refine Is.val ⟨_,rfl,by simp; omega, ?_⟩;have hd:d=false->y.El<x.El:=by
      rintro rfl;simp only [cH,eZ,decide_eq_false_iff_not] at hc;have:=hne y hmem;omega
     refine ⟨?_,fun z=>?_, ?_,fun h z hz=>?_,fun h j z hj hz=>hI.yes h j z oG hz⟩
     ·unfold Jhq;rw [aZ];refine ⟨hI.asc,by simp,fun a ha b hb=>?_⟩;simp at hb; subst hb;rcases (hI.mem a).1 ha with h|⟨h,rfl⟩
      ·exact Kd4 hL hy h
      ·exact hI.yes h i _ (aJ _) hy
     ·rw [Vp hy];simp only [aY,cA,hI.mem];exact or_right_comm
     ·simp; omega
     ·rw [Vp hy] at hz;rcases aY.1 hz with hz|hz
      ·exact hI.no h z hz
      ·simp at hz; subst hz; exact hd h
   ·rintro ⟨o',d'⟩ ⟨r,hr,hl,hI'⟩;cases hr;refine Is.bind (Is.app (by simp only [aE,aF,Js,Enc.b]; simp only at hl; omega)) fun M hM=>?_;subst hM;exact Is.val ⟨(d',o'++[y]),by rw [Zi oG],hI'⟩
  ·rintro ⟨d,o⟩ hI;unfold Xd;have e0:decide (((L.length:Nat):Int)<((L.length:Nat):Int))=false:=decide_eq_false oG;simp only [e0,cond_false];exact Is.val ⟨_,rfl,hI⟩
 ·rintro ⟨o,d⟩ ⟨r,hr,hI⟩;cases hr;simp only at hI;have hlen:=hI.len;refine Is.onInl (θ:=fun v=>∃ M,v=.inl M/\Jhq M/\(∀ y,y∈M↔y∈L\/y=x)/\M.length<=L.length+1) ?_ (fun v hv=>?_) (fun b hb=>by obtain ⟨_,hb,_⟩:=hb; cases hb)
  ·cases d with
   | true=>
    simp only [aX,cond_false];exact Is.val ⟨_,rfl,hI.asc,fun y=>by rw [hI.mem]; simp,hlen⟩
   | false=>
    have hol:o=L:=hI.asc.one hL (fun z=>by rw [hI.mem]; simp);subst hol;simp only [cH,cond_true];refine Is.bind (Is.app (by simp only [aE,aF,Js,Enc.b]; omega)) fun M hM=>?_;subst hM;refine Is.val ⟨_,rfl, ?_,fun y=>by simp,by simp⟩;unfold Jhq;rw [aZ];refine ⟨hL,by simp,fun a ha b hb=>?_⟩;simp at hb; subst hb;exact hI.no rfl a (by rw [aR]; exact ha)
  ·obtain ⟨M,rfl|_,h1,h2,h3⟩:=hv;exact Is.val ⟨h1,h2,h3⟩
theorem Jom(L:List Int)(g:Int)(hL:Jdp L)(h:L.length<=900000):Is (Mr L [g]) fun M=>Jdp M/\(∀ y,y∈M↔y∈L\/y=g):=by
 unfold Mr;refine Is.bind (Jrn L oG) fun M hM=>?_;have hML:M=L:=hM.1.one hL hM.2;subst hML;obtain ⟨K,q1,q2,q3,-⟩:=Jfj M g hL oG;have s0:Cv [g] (M,0)=some (.inl (K,1)):=by
  unfold Cv;dsimp only;rw [show decide ((0:Int)<((([g]:List Int).length:Nat):Int))=true from rfl];simp only [cond_true,show ixO [g] 0=some g from Vc (i:=0) rfl,aA,q1,show w64 (0+1)=1 by decide]
 have s1:Cv [g] (K,1)=some (.inr (.inl K)):=by
  unfold Cv;dsimp only;rw [show decide ((1:Int)<((([g]:List Int).length:Nat):Int))=false from rfl]; rfl
 rw [Vq s0,Qd s1];exact Is.val ⟨q2,q3⟩
theorem Jso(l:Ja)(P:Int->Bool)(N:Jg->Bool):∀ (n:Nat) (e:Jf),((Ji7 l P N n e).2.2=false->Ji7 l P N n e=(z0,-1,false))/\(0<=(Ji7 l P N n e).2.1->(Ji7 l P N n e).1=z0)
 | 0,e=>⟨fun _=>rfl,fun _=>rfl⟩
 | n+1,e=>by
  unfold Ji7;split
  ·exact ⟨(fun h=>by cases h),fun _=>rfl⟩
  ·split
   ·exact ⟨(fun h=>by cases h),fun _=>rfl⟩
   ·split
    ·exact ⟨(fun h=>by cases h),fun _=>rfl⟩
    ·split
     ·split
      ·exact ⟨fun _=>rfl,fun _=>rfl⟩
      ·split
       ·exact ⟨fun _=>rfl,fun _=>rfl⟩
       ·exact ⟨(fun h=>by cases h),(fun h=>by simp at h)⟩
     ·exact Jso l P N n _
structure Kkm (y:FG) (n:Nat) (F:List Jg) (G:List Int) (X:List Jf):Prop where
 asc:Jhq F
 mem:∀ z,z∈F↔z∈y.flank
 ascg:Jdp G
 memg:∀ z,z∈G↔z∈y.guards
 gaps:X=y.gaps
 lenF:F.length<=n
section
variable {l:Ja} (hs:Sm l) (hl:OkL l) {r:Jh} (hr:Jii r)
include hs hl hr
theorem Ke3(E:List Jf)(hE:E.length<=900) :
  Is (Jp (Hz l r E) (0,([]:List Jg),([]:List Int),([]:List Jf))) fun o=>∃ F G X,o=.inl (F,G,X)/\Kkm (Jc1 l (Sy r) (Jk3 r) E fg0) E.length F G X:=by
 refine Is.loop (mk:=fun (i:Nat) (m:List Jg×List Int×List Jf)=>((i:Int),m.1,m.2.1,m.2.2)) E.length (fun i m=>Kkm (Jc1 l (Sy r) (Jk3 r) (E.take i) fg0) i m.1 m.2.1 m.2.2) ([],[],[]) ⟨List.Pairwise.nil,fun z=>by simp [Jc1,fg0],List.Pairwise.nil,fun z=>by simp [Jc1,fg0],by simp [Jc1,fg0],by simp⟩ ?_ ?_
 ·rintro i ⟨F,G,X⟩ hi hI;obtain ⟨e,he⟩:∃ e,E[i]? = some e:=⟨_,aB hi⟩
  have e0:decide ((i:Int)<((E.length:Nat):Int))=true:=decide_eq_true oG;have hy:=Jkx l (Sy r) (Jk3 r) (E.take i) fg0 0 ⟨by simp [fg0],by simp [fg0],by simp [fg0]⟩;have hok:=Jyi hl (Sy r) (Jk3 r) (E.take i) fg0 ⟨by simp [fg0],by simp [fg0],by simp [fg0]⟩;rw [aT] at hy;rw [Vp he,Jjx];generalize Jc1 l (Sy r) (Jk3 r) (E.take i) fg0=y at hy hok hI ⊢;obtain ⟨a1,a2,a3,a4,a5,a6⟩:=hI;simp only at a1 a2 a3 a4 a5 a6;subst a5;have hGl:G.length<=y.guards.length:=Jtp (a3.imp fun {x y} h=>by omega) fun x hx=>(a4 x).1 hx;have hg1:=hy.guards;have hx1:=hy.gaps;have hS:=Jnj hs hl (Jiq hr (x:=⟨F,G,y.gaps⟩) ⟨by simp only; omega,by simp only; omega,by simp only; omega⟩) e;rw [Jz5] at hS;have hneed:Jfd (Jk3 r) ⟨F,G,y.gaps⟩=Jfd (Jk3 r) y:=by
   funext z;simp only [Jfd,Jpo];congr 1;exact decide_eq_decide.2 (a2 z)
  rw [hneed] at hS;have hpass:Sy (Jks r ⟨F,G,y.gaps⟩)=Sy r:=rfl;rw [hpass] at hS;simp only [Jks] at hS;unfold Hz;simp only [e0,cond_true,Vc he,aA,hS];simp only [Jc1];have hsr:=Jtd hl (Sy r) (Jfd (Jk3 r) y) 4 e;have hfa:=Jso l (Sy r) (Jfd (Jk3 r) y) 4 e;have hnew:=Jxo hok e hsr;generalize Ji7 l (Sy r) (Jfd (Jk3 r) y) 4 e=t at hsr hfa hnew;refine Is.onInl (θ:=fun o=>∃ F' G' X',o=.inl (F',G',X')/\Kkm (Jg8 y e t) (i+1) F' G' X') ?_ (fun v hv=>?_) (fun b hb=>by obtain ⟨_,_,_,hb,_⟩:=hb; cases hb)
  ·cases h1:t.2.2 with
   | false=>
    have ht:=hfa.1 h1;subst ht;simp only [cH,cond_true];refine Is.onInl (θ:=fun o=>o=.inl (y.gaps++[e])) ?_ (fun v hv=>?_) (fun b hb=>by cases hb)
    ·refine Is.bind (Is.app (by simp only [aE,aF,Js,Enc.b]; omega)) fun M hM=>?_;subst hM; exact Is.val rfl
    cases hv;simp only [z0,decide_true,aX,cond_false,onInl,Vm,aA,show decide ((0:Int) <= -1)=false from rfl];refine Is.val ⟨_,_,_,rfl, ?_⟩;unfold Jg8;simp only [if_true];exact ⟨a1,a2,a3,a4,rfl,by omega⟩
   | true=>
    simp only [aX,cond_false,onInl,Vm,aA]
    by_cases h2:0<=t.2.1
    ·have hz:=hfa.2 h2;have hp0:decide (t.1.Pos=0)=true:=by rw [hz]; rfl
     obtain ⟨M,q1,q2,q3⟩:=Jom G t.2.1 a3 oG;simp only [hp0,aX,cond_false,aA,decide_eq_true h2,cond_true,q1];refine Is.val ⟨_,_,_,rfl, ?_⟩;unfold Jg8;simp only [h1,Bool.true_eq_false,if_false,h2,if_true];exact ⟨a1,a2,q2,fun z=>by rw [q3,a4]; simp,rfl,by omega⟩
    ·have hd2:decide (0<=t.2.1)=false:=decide_eq_false h2
     by_cases h3:t.1=z0
     ·have hp0:decide (t.1.Pos=0)=true:=by rw [h3]; rfl
      simp only [hp0,aX,cond_false,aA,hd2];refine Is.val ⟨_,_,_,rfl, ?_⟩;unfold Jg8;simp only [h1,Bool.true_eq_false,if_false,h2,h3,if_true];exact ⟨a1,a2,a3,a4,rfl,by omega⟩
     ·have hset:=hsr.set h3;have hp0:decide (t.1.Pos=0)=false:=decide_eq_false (by have:=hset.2.2.1; omega);have hst:Jg8 y e t=⟨y.flank++[t.1],y.guards,y.gaps⟩:=by
       unfold Jg8;simp only [h1,Bool.true_eq_false,if_false,h2,h3]
      rw [hst] at hnew ⊢;have hne:t.1∈F\/∀ z∈F,z.El≠t.1.El:=by
       by_cases hin:t.1∈F
       ·exact .inl hin
       ·refine .inr fun z hz ez=>hin ?_;have:=hnew.one z (by simp [(a2 z).1 hz]) t.1 sG ez;rw [<- this]; exact hz
      obtain ⟨M,q1,q2,q3,q4⟩:=Jva F t.1 a1 hne oG;simp only [hp0,cH,cond_true,q1,aA,hd2,cond_false];refine Is.val ⟨_,_,_,rfl, ?_⟩;exact ⟨q2,fun z=>by rw [q3,a2]; simp,a3,a4,rfl,by omega⟩
  ·obtain ⟨F',G',X',hv,hR⟩:=hv;cases hv;exact Is.val ⟨(F',G',X'),by rw [Zi oG],hR⟩
 ·rintro ⟨F,G,X⟩ hI;unfold Hz;have e0:decide (((E.length:Nat):Int)<((E.length:Nat):Int))=false:=decide_eq_false oG;simp only [e0,cond_false];rw [aR] at hI;exact Is.val ⟨F,G,X,rfl,hI⟩
theorem Jrl(hp:r.Path.length<=40)(ho:r.Over.length<=40):Lg l r=some (Kiu l r):=by
 have hel:(Ha l (r.Path++r.Over)).length<=900:=by
  have:=Jbf l (r.Path++r.Over);rw [aH] at this; omega
 obtain ⟨o,q1,F,G,X,rfl,hR⟩:=Ke3 hs hl hr (Ha l (r.Path++r.Over)) hel;have hS:=Jq1 hl (Jiq hr (x:=fg0) ⟨by simp [fg0],by simp [fg0],by simp [fg0]⟩);simp only [Jks,fg0] at hS;unfold Lg;rw [hS,aA,q1];simp only [onInl,Vm,aA];have hF:F=sF (Joo l r).flank:=hR.asc.asc.one (Kj8 _) fun z=>by rw [Kjy]; exact hR.mem z
 have hG:G=sGq (Joo l r).guards:=hR.ascg.one (Kka _) fun z=>by rw [Kkg]; exact hR.memg z
 rw [hF,hG,hR.gaps]
 rfl
end
theorem Jvs{l:Ja}(hj:l.Joints.length<=1048576){r:Jh}(hr:r.Sections.length<=1048576)(x:Kn×Bool)(s:Bool×Jf×List Jb)(h:s.2.2.length<=12) :
  Is (Ps l r x s) fun o=>match o with|.inl t=>t.2.2.length<=12/\12 - t.2.2.length<12 - s.2.2.length|.inr o=>∃ v,o=.inl v/\v.length<=12:=by
 obtain ⟨b,e,o⟩:=s;dsimp only at h;unfold Ps;dsimp only;refine Is.bind (φ:=fun _=>True) (Is.cond (fun _=>by rw [Jao l o oG]; exact Is.val trivial) fun _=>Is.val trivial) fun b38 _=>?_;refine Is.bind (φ:=fun c=>c=true->o.length<12) (Is.cond (fun _=>Is.val fun e=>by have:=of_decide_eq_true e; omega) fun _=>Is.val fun e=>by cases e) fun b40 h40=>?_;refine Is.bind (φ:=fun c=>c=true->o.length<12) (Is.cond (fun hb=>?_) fun _=>Is.val fun e=>by cases e) fun b41 h41=>?_
 ·exact Is.bind (Is.eq (Jyy l (ovR r o [] []) o e.El oG hr)) fun r42 _=>Is.val fun _=>h40 hb
 ·refine Is.cond (fun hb=>?_) fun _=>Is.val ⟨_,rfl,h⟩;have hlt:=h41 hb;rw [Jc3,aA];refine Is.ite Km (fun _=>Is.val ⟨_,rfl,h⟩) fun hne=>?_;obtain ⟨y,hy⟩:∃ y,(Hb l e)[0]? = some y:=⟨_,aB oG⟩
  rw [show ixO (Hb l e) 0=some y from Vc hy];simp only [aA];refine Is.bind (Is.app (by simp only [aE,aF,Js,Enc.b]; omega)) fun M hM=>?_;subst hM;rw [Tk hj];exact Is.val ⟨by simp; omega,by simp; omega⟩
theorem Jq5{l:Ja}(hj:l.Joints.length<=1048576){r:Jh}(hr:r.Sections.length<=1048576):Is (Lc l r) fun r'=>∃ o,o.length<=12/\r'=ovR r o (Jm9 l o) (Jbm l o):=by
 unfold Lc;have e0:Iy l (Jh.mk r.Name r.Entry r.Exit r.Path r.Points r.Sections r.Approach r.Length [] [] [] r.Flank r.Guards r.Gaps)=some (Kev l r):=Jrq l (ovR r [] [] []);rw [e0,aA];refine Is.cond (fun _=>Is.val ⟨[],by simp,by rw [Keq]; rfl⟩) fun _=>?_;rw [Vv hj,aA];refine Is.onInl (θ:=fun o=>∃ v,o=.inl v/\v.length<=12) (Is.wf (fun s=>s.2.2.length<=12) (fun s=>12 - s.2.2.length) (fun s hs=>(Jvs hj hr _ s hs).mono fun o ho=>by cases o <;> exact ho) _ _ (aJ _) sG) ?_ fun b hb=>by obtain ⟨_,hb,_⟩:=hb; cases hb
 rintro v ⟨w,e,hw⟩;cases e;rw [Jcq l v oG,Rr l v oG];exact Is.val ⟨v,hw,rfl⟩
structure TbR (l:Ja) (rt:Jh):Prop where
 p0:0<rt.Path.length
 p1:rt.Path.length<=12
 ln:rt.Length=w64 (Uf l rt.Path)
 vp:Vo l rt.Path
 few:Jii rt
 se:rt.Sections=Jbm l rt.Path
theorem Kbl{l:Ja}{r:Jh}(h:r∈Jm1 l):r.Length=w64 (Uf l r.Path)/\Vo l r.Path:=by
 unfold Jm1 at h;rw [eI] at h;obtain ⟨i,hi,h⟩:=h;unfold Jfw at h;split at h
 ·split at h
  ·rw [bN] at h;obtain ⟨k,hk,rfl⟩:=h;rw [List.mem_range] at hk;have hg:=Jhk hk;exact ⟨rfl,(Jcu (aC hg)).2.2.1⟩
  ·cases h
 ·cases h
theorem Kmf{l:Ja}(h:Sm l)(hO:OkL l){r:Jh}(hr:r∈Jm1 l):Is (Lc l r) fun r1=>Is (Lg l r1) fun r2=>TbR l r2:=by
 have hk:=Kid hr;have hp:=hk.p1;have h1:=Jj9 l r.Path;have h2:=Jp0 l r.Path;refine (Jq5 h.jo (r:=r) (by rw [hk.se]; omega)).mono fun r1 hr1=>?_;obtain ⟨o,o1,rfl⟩:=hr1;have h3:=Jj9 l o;have h4:=Jp0 l o;have hF:Jii (ovR r o (Jm9 l o) (Jbm l o)):=⟨by show r.Path.length<=1000; omega,by show o.length<=1000; omega,by show r.Points.length<=1000; rw [hk.po]; omega,by show (Jm9 l o).length<=1000; omega,by show r.Flank.length<=1000; rw [hk.fl]; simp,
  by show r.Sections.length<=1000; rw [hk.se]; omega,by show (Jbm l o).length<=1000; omega,by show r.Guards.length<=1000; rw [hk.gu]; simp,by show r.Gaps.length<=1000; rw [hk.ga]; simp⟩
 rw [Jrl h hO hF (by show r.Path.length<=40; omega) (by show o.length<=40; omega)];exact Is.val ⟨hk.p0,hp,(Kbl hr).1,(Kbl hr).2,Kb8 l hF (by show r.Path.length<=40; omega) (by show o.length<=40; omega),hk.se⟩
theorem Jnh{l:Ja}(h:l.Elements.length<=1048576):Is (Es l) fun L=>L.length<=l.Elements.length:=by
 unfold Es;refine Is.fold (L:=l.Elements) (mk:=fun i (o:List Int)=>(i,o)) (fun i o=>o.length<=i) [] oG sG (fun i x o hx hi hI=>?_) fun o hI=>?_
 ·unfold Lh;refine Is.inb hi ?_;refine Is.onInl (θ:=fun r=>∃ v,r=.inl v/\v.length<=i+1) (Is.at hx (Is.cond (fun _=>?_) fun _=>Is.val ⟨_,rfl,by omega⟩)) ?_ fun b hb=>by obtain ⟨_,hb,_⟩:=hb; cases hb
  ·refine Is.bind (Is.app (by simp only [aE,aF,Js,Enc.b]; omega)) fun M hM=>?_;subst hM;exact Is.val ⟨_,rfl,by simp; omega⟩
  ·rintro v ⟨w,e,hw⟩;cases e;exact Is.val ⟨_,rfl,hw⟩
 ·unfold Lh;exact Is.oub (Is.val (Is.val hI))
theorem Jq2{l:Ja}(h:Sm l):Is (Bm l) fun r=>r.2=0->r.1.Routes.length<=48/\r.1.Points.length<=1048576/\r.1.Homes.length<=1048576/\∀ rt∈r.1.Routes,TbR l rt:=by
 unfold Bm;rw [Kg3 h,aA]
 by_cases hc:chk l=0
 ·have hO:=(Kd7 l).1 hc;rw [if_pos hc]
  by_cases h48:48<(Jm1 l).length
  ·rw [if_pos h48];exact Is.cond (fun _=>Is.val fun e=>by cases e) fun e=>by simp at e
  ·rw [if_neg h48];refine Is.cond (fun e=>by simp at e) fun _=>?_;have hel:=h.el;refine (Jnh hel).bind fun P hP=>?_;refine Is.fold (L:=Jm1 l) (mk:=fun i (o:List Jh)=>(i,o)) (fun i o=>o.length=i/\∀ rt∈o,TbR l rt) [] oG ⟨rfl,by simp⟩ (fun i x o hx hi hI=>?_) fun o hI=>?_
   ·unfold Nj;dsimp only;refine Is.inb hi (Is.at hx ?_);refine (Kmf h hO (aC hx)).bind fun r1 h1=>h1.bind fun r2 h2=>?_;refine Is.bind (Is.app (by have:=hI.1; simp only [aE,aF,Js,Enc.b]; omega)) fun M hM=>?_;subst hM;refine Is.val ⟨_,rfl,by simp [hI.1],fun rt hrt=>?_⟩;rcases aY.1 hrt with q|q
    ·exact hI.2 rt q
    ·simp at q; subst q; exact h2
   ·unfold Nj;dsimp only;refine Is.oub (Is.val ?_);refine Is.fold (L:=P) (mk:=fun i (o:List Int)=>(i,o)) (fun i o=>o.length=i) [] oG rfl (fun i x z hx hi hz=>?_) fun z hz=>?_
    ·unfold Nh;refine Is.inb hi (Is.at hx ?_);rw [Df,aA];refine Is.bind (Is.app (by simp only [aE,aF,Js,Enc.b]; omega)) fun M hM=>?_;subst hM;exact Is.val ⟨_,rfl,by simp [hz]⟩
    ·unfold Nh;refine Is.oub (Is.val (Is.val fun _=>⟨?_, ?_, ?_,hI.2⟩))
     ·show o.length<=48; have:=hI.1; omega
     ·show P.length<=1048576; omega
     ·show z.length<=1048576; omega
 ·rw [if_neg hc];refine Is.cond (fun _=>Is.val fun e=>absurd e hc) fun e=>?_;simp [hc] at e
theorem Klm(x y:Jb):Ml x y=true↔x=y:=by cases x; cases y; simp [Ml]
theorem Kfl{a b:List Jb}(h:a.length<=1000):Is (Yc a b) fun r=>r=true↔a=b:=Jgx Klm oG fun _=>rfl
theorem Kep{a b:List Jg}(h:a.length<=1000):Is (Dr a b) fun r=>r=true↔a=b:=Jgx Jr3 oG fun _=>rfl
theorem Kdk{a b:List Int}(h:a.length<=1000):Is (Iz a b) fun r=>r=true↔a=b:=Jgx (eqf:=fun x y=>decide (x=y)) (fun _ _=>Km) oG fun _=>rfl
theorem Keh{a b:List Int}(h:a.length<=1048576):Is (Ux a b) fun r=>r=true↔a=b:=Jgx (eqf:=fun x y=>decide (x=y)) (fun _ _=>Km) h fun _=>rfl
theorem Klv{a b:List Jf}(h:a.length<=1000):Is (La a b) fun r=>r=true↔a=b:=Jgx Pm oG fun _=>rfl
theorem Kfp{b:Bool}{y:Option Bool}{p q:Prop}(hb:b=true->p)(hy:Is y fun c=>c=true↔q):Is (bif b then y else some false) fun c=>c=true->p/\q :=
 Is.cond (fun h=>hy.mono fun _ hc e=>⟨hb h,hc.1 e⟩) fun _=>Is.val fun e=>by cases e
theorem Kcn{a b:Jh}(h:Jii a):Is (Pq a b) fun r=>r=true->a=b:=by
 unfold Pq Dn Wx Bu;simp only [Jej];refine Is.cond (fun _=>Is.val fun e=>by cases e) fun h0=>?_;simp only [dZ,eO,decide_eq_true_eq] at h0;refine (Kfl h.path).bind fun r1 h1=>?_;refine Is.bind (φ:=fun c=>c=false->a.Path=b.Path/\a.Points=b.Points) ?_ fun b2 h2=>?_
 ·cases r1 with
  | false=>exact Is.val fun e=>by cases e
  | true=>exact (Kep h.pts).bind fun r3 h3=>Is.val fun e=>⟨h1.1 rfl,h3.1 (by simpa using e)⟩
 refine Is.bind (φ:=fun c=>c=false->(a.Path=b.Path/\a.Points=b.Points)/\a.Sections=b.Sections) ?_ fun b4 h4=>?_
 ·cases b2 with
  | true=>exact Is.val fun e=>by cases e
  | false=>exact (Kdk h.secs).bind fun r3 h3=>Is.val fun e=>⟨h2 rfl,h3.1 (by simpa using e)⟩
 refine Is.cond (fun _=>Is.val fun e=>by cases e) fun hb4=>?_;refine (Kfl h.over).bind fun r6 h6=>?_;refine (Kfp h6.1 (Kep h.ops)).bind fun b7 h7=>?_;refine (Kfp h7 (Kdk h.osecs)).bind fun b9 h9=>?_;refine (Kfp h9 (Kep h.flank)).bind fun b11 h11=>?_;refine (Kfp h11 (Kdk h.guards)).bind fun b13 h13=>?_;refine (Kfp h13 (Klv h.gaps)).mono fun b15 h15=>fun e=>?_;have k:=h15 e;have k4:=h4 hb4;cases a; cases b;simp only at h0 k k4;simp only [Jh.mk.injEq];exact ⟨h0.1.1.1.1,h0.1.1.1.2,h0.1.1.2,k4.1.1,k4.1.2,k4.2,h0.1.2,h0.2,k.1.1.1.1.1,k.1.1.1.1.2,k.1.1.1.2,k.1.1.2,k.1.2,k.2⟩
theorem Kcm{x t:Jq}(hx:∀ rt∈x.Routes,Jii rt)(hl:x.Routes.length<=48)(h2:x.Points.length<=1048576)(h3:x.Homes.length<=1048576):Is (Sa x t) fun r=>r=true->x.Routes=t.Routes:=by
 unfold Sa;refine Is.bind (φ:=fun c=>c=false->x.Routes.length=t.Routes.length) ?_ fun b1 h1=>?_
 ·refine Is.ifn (p:=x.Routes.length=t.Routes.length) (by rw [decide_eq_true_iff]; omega) (fun _=>Is.val fun e=>by cases e) fun hl=>?_;exact (Keh h2).bind fun r _=>Is.val fun _=>hl
 refine Is.bind (φ:=fun c=>c=false->x.Routes.length=t.Routes.length) ?_ fun b3 h3'=>?_
 ·refine Is.cond (fun _=>Is.val fun e=>by cases e) fun hb=>?_;exact (Keh h3).bind fun r _=>Is.val fun _=>h1 hb
 refine Is.cond (fun _=>Is.val fun e=>by cases e) fun hb=>?_;simp only [dZ] at hb;have hlen:=h3' hb.1.1;refine Is.all (L:=x.Routes) (fun i y=>t.Routes[i]? = some y) () oG (fun i y hy hi _=>?_) (by simp [Pz]) fun hn=>Is.val fun _=>?_
 ·unfold Pz;have hg:t.Routes[i]? = some t.Routes[i]:=aB oG;refine Is.inb hi (Is.at hy (Is.at hg ?_));refine (Kcn (hx y (aC hy))).bind fun r hr=>?_;cases r with
  | false=>exact Is.val fun e=>by cases e
  | true=>exact Is.val ⟨rfl,by rw [hg,hr rfl]⟩
 ·apply dB;intro i;cases hy:x.Routes[i]? with
  | some y=>exact (hn i y hy).symm
  | none=>exact (bY (by have:=List.getElem?_eq_none_iff.1 hy; omega)).symm
structure Mod (k:Je) (list:List Jj):Prop where
 st:k.Steps.length<=100
 li:list.length<=100
 ro:k.Routes.length<=100
 sa:k.Starts.length<=100
 en:k.Ends.length<=100
 dn:k.Done.length<=100
structure Fin (k:Je):Prop where
 o:-1073741824<=k.Origin/\k.Origin<=1073741824
 a:-1073741824<=k.At/\k.At<=1073741824
theorem Gv{α:Type}[Enc α]{L:List α}(h:L.length * Enc.b α<=Js/\L.length<=Js):Qi ([]:List α) L=some L:=by
 unfold Qi;rw [if_pos (by simpa using h)]; rfl
theorem Jzh(o:Nat){n i:Nat}(h:i<n):Wd o n (i:Int)=some (o+i):=by
 unfold Wd;rw [if_pos oG]; rfl
theorem Jur{α:Type}{L:List α}{n j:Nat}(h:L.length=n):Vd L n j=L[j]?:=by
 unfold Vd;rw [if_pos h]
structure Ji9 (k:Je):Prop where
 steps:k.Steps.length<=1000
 routes:k.Routes.length<=1000
 starts:k.Starts.length<=1000
 ends:k.Ends.length<=1000
 done:k.Done.length<=1000
structure Kc0 (c:Jm):Prop where
 tr:c.Tracks.length<=1000
 se:c.Sessions.length<=1000
 each:∀ k∈c.Tracks,Ji9 k
theorem Jyt{L:List Jb}(h:L.length<=1000):Kz L=some L:=by
 unfold Kz; rw [Gv (by simp only [Js,Enc.b]; omega)]; rfl
theorem Jci{L:List Int}(h:L.length<=1000):Kb L=some L:=by
 unfold Kb; rw [Gv (by simp only [Js,Enc.b]; omega)]; rfl
theorem Kat{L:List Jl}(h:L.length<=1000):Ur L=some L:=by
 unfold Ur; rw [Gv (by simp only [Js,Enc.b]; omega)]; rfl
def tr0 : Je:=Je.mk 0 0 0 0 [] [] [] [] [] 0 0 0 0 0
noncomputable def Jtu{B:Type}(T Z:List Je):(Int×(List Je))->Option ((Int×(List Je))⊕((List Je)⊕B)):=fun (x44,x45)=>
 bif decide (x44<((T.length:Nat):Int)) then (
  (ixO T x44).bind fun x55=>
  (Kz x55.Steps).bind fun r56=>
  (Kb x55.Routes).bind fun r57=>
  (Kb x55.Starts).bind fun r58=>
  (Kb x55.Ends).bind fun r59=>
  (Kb x55.Done).bind fun r60=>
  (Wd 0 (((Z:(List Je)).map cellsOf).length) x44).bind fun j61=>
  (Vd x45 (((Z:(List Je)).map cellsOf).length) j61).bind fun x62=>
  some (.inl (w64 (x44+1),(x45.set j61 (Je.mk x55.Id x55.Origin x55.End x55.At r56 r57 r58 r59 r60 x55.Min x55.Sent x55.Accepted x55.Cut x55.CutSeq))))
 ) else (
  some (.inr (.inl x45))
 )
theorem Ka5{B:Type}{T:List Je}(hT:T.length<=1000)(hf:∀ k∈T,Ji9 k):Jp (Jtu (B:=B) T (List.replicate T.length tr0)) (0,List.replicate T.length tr0)=some (.inl T):=by
 have:Is (Jp (Jtu (B:=B) T (List.replicate T.length tr0)) (0,List.replicate T.length tr0)) fun o=>o=.inl T:=by
  refine Is.loop (mk:=fun k (s:List Je)=>((k:Int),s)) T.length (fun k s=>s.length=T.length/\∀ j,j<k->s[j]? = T[j]?) (List.replicate T.length tr0) ⟨by simp,fun j hj=>by omega⟩ (fun k s hk hI=>?_) (fun s hI=>?_)
  ·have hx:=aB hk;have hm:=hf _ (aC hx);generalize T[k]=x at hx hm;have hN:(((List.replicate T.length tr0:List Je).map cellsOf).length)=T.length:=by simp
   have hxi:Wd 0 (((List.replicate T.length tr0:List Je).map cellsOf).length) (k:Int)=some k:=by rw [Jzh 0 (by rw [hN]; exact hk),aW]
   have hld:∃ y,Vd s (((List.replicate T.length tr0:List Je).map cellsOf).length) k=some y:=⟨s[k],by rw [Jur (by rw [hN,hI.1])]; exact aB oG⟩
   obtain ⟨y,hld⟩:=hld;simp only [Jtu];rw [decide_eq_true oG,cond_true];refine Is.at hx ?_;rw [Jyt hm.steps,aA,Jci hm.routes,aA,Jci hm.starts,aA,Jci hm.ends,aA,Jci hm.done,aA,hxi,aA,hld,aA];refine Is.val ⟨_,by rw [Zi oG],by rw [cG]; exact hI.1,fun j hj=>?_⟩
   by_cases e:j=k
   ·subst e;rw [dM oG,hx]
   ·rw [cQ oG];exact hI.2 j oG
  ·simp only [Jtu];rw [decide_eq_false oG,cond_false];refine Is.val ?_;congr 1;congr 1;apply dB;intro j
   by_cases hj:j<T.length
   ·exact hI.2 j hj
   ·rw [bY oG,bY oG]
 obtain ⟨o,h1,rfl⟩:=this;exact h1
theorem Kfj{T:List Je}(hT:T.length<=1000):Jy3 ((T.length:Nat):Int) ((T.length:Nat):Int) 192 tr0=some (List.replicate T.length tr0):=by
 unfold Jy3;rw [if_pos ⟨by omega,by omega,by simp only [Js]; omega,by simp only [Js]; omega⟩]
 rfl
def Jl1(T:List Je)(id:Int):Option Nat:=T.findIdx? fun k=>decide (k.Id=id)
theorem Klo{c:Jm}(hT:c.Tracks.length<=1000)(id:Int):Jdc c id=some (match Jl1 c.Tracks id with|some n=>(n:Int)|none=> -1):=by
 have:Is (Jdc c id) fun r=>r=(match Jl1 c.Tracks id with|some n=>(n:Int)|none=> -1):=by
  unfold Jdc;refine Is.all (L:=c.Tracks) (fun _ x=>x.Id≠id) () oG (fun i x hx hi hI=>?_) (by simp [Jav]) (fun hn=>Is.val ?_)
  ·unfold Jav;refine Is.inb hi (Is.at hx (Is.cond (fun hc=>Is.val ?_) fun hc=>Is.val ⟨rfl,of_decide_eq_false hc⟩));have hc:=of_decide_eq_true hc;have:Jl1 c.Tracks id=some i:=by
    unfold Jl1;rw [eE];refine ⟨hi, ?_,fun j hj=>?_⟩
    ·rw [aB hi] at hx; cases hx;exact decide_eq_true hc
    ·rw [Bool.not_eq_true,decide_eq_false_iff_not];exact hI j _ hj (aB oG)
   rw [this]
  ·have:Jl1 c.Tracks id=none:=by
    unfold Jl1;rw [List.findIdx?_eq_none_iff];intro x hx;obtain ⟨i,hi⟩:=aS hx;exact decide_eq_false (hn i x hi)
   rw [this]
 obtain ⟨r,h1,rfl⟩:=this;exact h1
def Ka1(s:Jl):Int:=if s.Out<1073741824 then w64 (s.Out+1) else s.Out
def Jib(s:Jl)(m:Jn)(now:Int):Jl×Jn :=
 (Jl.mk s.Peer (Ka1 s) s.In s.Heard,Jn.mk m.Kind m.From s.Peer (Ka1 s) now m.Auth m.Report)
theorem Jsj(s:Jl)(m:Jn)(now:Int):Sn s m now=some (Jib s m now):=by
 unfold Sn Jib Ka1;cases h:decide (s.Out<1073741824) with
 | true=>rw [if_pos (of_decide_eq_true h)]; rfl
 | false=>rw [if_neg (of_decide_eq_false h)]; rfl
theorem Kiw{α:Type}[Enc α]{L:List α}(h:L.length<=100000):slO L none (some ((L.length:Nat):Int)) (some ((L.length:Nat):Int))=some L:=by
 unfold slO;simp [Jjs]
theorem Kg8(s:Jl)(m:Jn)(now:Int)(h1:m.Auth.Profile.length<=1000)(h2:m.Auth.Links.length<=1000):Ee s m now=some (Jib s m now):=by
 have c1:Vh m.Auth.Profile=some m.Auth.Profile:=by
  unfold Vh;rw [Gv (by simp only [Js,Enc.b]; omega),aA,Kiw oG]; rfl
 have c2:Vn m.Auth.Links=some m.Auth.Links:=by
  unfold Vn;rw [Gv (by simp only [Js,Enc.b]; omega),aA,Kiw oG]; rfl
 unfold Ee Jib Ka1;simp only [c1,c2,aA];cases h:decide (s.Out<1073741824) with
 | true=>rw [if_pos (of_decide_eq_true h)]; rfl
 | false=>rw [if_neg (of_decide_eq_false h)]; rfl
theorem Jnv{c:Jm}(h1:c.Tracks.length<=1000)(h2:c.Sessions.length<=1000){i:Nat}(hi1:i<c.Tracks.length)(hi2:i<c.Sessions.length)(k:Je)(s:Jl) :
  Fd c (i:Int) k s=some ⟨c.Tracks.set i k,c.Sessions.set i s⟩:=by
 unfold Fd;rw [Gv (by simp only [Js,Enc.b]; omega),aA,Gv (by simp only [Js,Enc.b]; omega),aA];have n1:(((c.Tracks:List Je).map cellsOf).length)=c.Tracks.length:=aV _;have n2:(((c.Sessions:List Jl).map cellsOf).length)=c.Sessions.length:=aV _;rw [Jzh 0 (by rw [n1]; exact hi1),aA,Jur n1.symm,aW,aB hi1,aA,Jzh 0 (by rw [n2]; exact hi2),aA,Jur n2.symm,aW,aB hi2,aA]
theorem Jz4 : Mk=some true:=by kernel_rfl
theorem Jx7{α:Type}{L:List α}{i:Nat}{x:α}(h:L[i]? = some x):L.set i x=L:=by
 apply dB;intro j
 by_cases e:j=i
 ·subst e; rw [dM (Qs h),h]
 ·rw [cQ (fun q=>e q.symm)]
theorem Kl9(x y:Jb):Ml x y=true↔x=y:=by cases x; cases y; simp [Ml]
theorem Kl6(x:Jl):Ta x x=true:=by simp [Ta]
theorem Kls(x:Uw):Jar x x=true:=by simp [Jar]
theorem Jpa{L:List Jb}(h:L.length<=1000):Yc L L=some true:=by
 have:Is (Yc L L) fun r=>r=true↔L=L:=Jgx Kl9 oG fun _=>rfl;obtain ⟨r,h1,h2⟩:=this;rw [h1,h2.2 rfl]
theorem Tj{L:List Int}(h:L.length<=1000):Ux L L=some true:=by
 have:Is (Ux L L) fun r=>r=true↔L=L:=Jgx (eqf:=fun x y=>decide (x=y)) (fun _ _=>Km) oG fun _=>rfl;obtain ⟨r,h1,h2⟩:=this;rw [h1,h2.2 rfl]
theorem Jwe{k:Je}(h:Ji9 k):Rx k k=some true:=by
 unfold Rx;simp only [decide_true,aX,Bool.or_false,cond_false,Jpa h.steps,Tj h.routes,Tj h.starts,Tj h.ends,Tj h.done,aA,cond_true]
theorem Jwc{c:Jm}(h:Kc0 c):Mb c c=some true:=by
 have:Is (Mb c c) fun b=>b=true:=by
  unfold Mb;simp only [decide_true,aX,cond_false,aA];have h1:=h.tr;have h2:=h.se;refine Is.all (L:=c.Tracks) (fun _ _=>True) () oG (fun i x hx hi _=>?_) (by simp [Rp]) (fun _=>?_)
  ·unfold Rp;refine Is.inb hi (Is.at hx (Is.at hx ?_));rw [Jwe (h.each x (aC hx))];exact Is.val ⟨rfl,trivial⟩
  ·refine Is.all (L:=c.Sessions) (fun _ _=>True) () oG (fun i x hx hi _=>?_) (by simp [Rm]) (fun _=>Is.val rfl);unfold Rm;refine Is.inb hi (Is.at hx (Is.at hx ?_));rw [Kl6];exact Is.val ⟨rfl,trivial⟩
 obtain ⟨b,h1,rfl⟩:=this;exact h1
theorem Keg{c:Jm}(h1:c.Tracks.length<=1048576):Is (Xo c) fun b=>b=true->Kc0 c/\c.Tracks.length<=10/\c.Sessions.length<=10/\∀ k∈c.Tracks,k.Steps.length<=100/\k.Routes.length<=60/\k.Starts.length<=60/\k.Ends.length<=60/\k.Done.length<=60:=by
 unfold Xo;refine Is.all (L:=c.Tracks) (fun _ k=>k.Steps.length<=100/\k.Routes.length<=60/\k.Starts.length<=60/\k.Ends.length<=60/\k.Done.length<=60) () oG (fun i x hx hi _=>?_) (by simp [Tv]) (fun hn=>?_)
 ·unfold Tv;refine Is.inb hi (Is.at hx ?_);refine Is.bind (Is.or Km fun _=>Is.val Km) fun b1 hb1=>?_;refine Is.bind (Is.or hb1 fun _=>Is.val Km) fun b2 hb2=>?_;refine Is.bind (Is.or hb2 fun _=>Is.val Km) fun b3 hb3=>?_;refine Is.bind (Is.or hb3 fun _=>Is.val Km) fun b4 hb4=>?_;refine Is.ite hb4 (fun _=>Is.val fun q=>by cases q) fun hp=>Is.val ⟨rfl,by omega⟩
 ·have hall:∀ k∈c.Tracks,k.Steps.length<=100/\k.Routes.length<=60/\k.Starts.length<=60/\k.Ends.length<=60/\k.Done.length<=60:=Va.1 hn;refine Is.bind (Is.and Km fun _=>Is.val Km) fun b hb=>Is.val fun q=>?_;have hb:=hb.1 q;exact ⟨⟨by omega,by omega,fun k hk=>by have:=hall k hk; exact ⟨by omega,by omega,by omega,by omega,by omega⟩⟩,by omega,by omega,hall⟩
theorem Kad{t:Jq}(s:Jx)(h:t.Routes.length<=1048576):Is (Mx t s) fun b=>b=true->t.Routes.length<=50/\s.Routes.length<=50/\∀ r∈t.Routes,r.Sections.length<=30/\r.Path.length<=30:=by
 unfold Mx;refine Is.all (L:=t.Routes) (fun _ r=>r.Sections.length<=30/\r.Path.length<=30) () oG (fun i x hx hi _=>?_) (by simp [Ns]) (fun hn=>?_)
 ·unfold Ns;refine Is.inb hi (Is.at hx ?_);refine Is.bind (Is.or Km fun _=>Is.val Km) fun b1 hb1=>?_;refine Is.bind (Is.or hb1 fun _=>Is.val Km) fun b2 hb2=>?_;refine Is.bind (Is.or hb2 fun _=>Is.val Km) fun b3 hb3=>?_;refine Is.bind (Is.or hb3 fun _=>Is.val Km) fun b4 hb4=>?_;refine Is.bind (Is.or hb4 fun _=>Is.val Km) fun b5 hb5=>?_;refine Is.ite hb5 (fun _=>Is.val fun q=>by cases q) fun hp=>Is.val ⟨rfl,by omega⟩
 ·refine Is.bind (Is.and Km fun _=>Is.val Km) fun b1 hb1=>?_;refine Is.bind (Is.and hb1 fun _=>Is.val Km) fun b2 hb2=>?_;refine Is.bind (Is.and hb2 fun _=>Is.val Km) fun b3 hb3=>?_;refine Is.bind (Is.and hb3 fun _=>Is.val Km) fun b4 hb4=>Is.val fun q=>?_;have:=hb4.1 q;exact ⟨by omega,by omega,Va.1 hn⟩
structure Kgj (x:Jz):Prop where
 rt:x.Table.Routes.length<=1048576
 tr:x.Center.Tracks.length<=1048576
theorem Jyo{x:Jz}(h:Kgj x):Is (Mu x) fun b=>b=true->(Kc0 x.Center/\x.Center.Tracks.length<=10/\x.Center.Sessions.length<=10/\∀ k∈x.Center.Tracks,k.Steps.length<=100/\k.Routes.length<=60/\k.Starts.length<=60/\k.Ends.length<=60/\k.Done.length<=60) /\
  (x.Table.Routes.length<=50/\x.Inter.Routes.length<=50/\∀ r∈x.Table.Routes,r.Sections.length<=30/\r.Path.length<=30)/\x.Slow.length<=20/\x.Trains.length<=10:=by
 unfold Mu;refine Is.bind (φ:=fun _=>True) ?_ fun r1 _=>?_
 ·unfold Xb;refine Is.bind (φ:=fun _=>True) (Is.cond (fun _=>Is.val trivial) fun _=>Is.val trivial) fun b1 _=>?_;refine Is.bind (φ:=fun _=>True) (Is.cond (fun _=>Is.val trivial) fun _=>Is.val trivial) fun b2 _=>?_;refine Is.bind (φ:=fun _=>True) (Is.cond (fun _=>Is.val trivial) fun _=>Is.val trivial) fun b3 _=>?_;refine Is.bind (φ:=fun _=>True) (Is.cond (fun _=>Is.val trivial) fun _=>Is.val trivial) fun b4 _=>Is.val trivial
 simp only [Jej];refine Is.bind (φ:=fun b=>b=true->(x.Table.Routes.length<=50/\x.Inter.Routes.length<=50/\∀ r∈x.Table.Routes,r.Sections.length<=30/\r.Path.length<=30)) (Is.cond (fun _=>Kad _ h.rt) fun _=>Is.val fun q=>by cases q) fun b2 h2=>?_;refine Is.bind (φ:=fun b=>b=true->b2=true/\x.Slow.length<=20) (Is.cond (fun q=>Is.val fun e=>⟨q,by have:=of_decide_eq_true e; omega⟩) fun _=>Is.val fun q=>by cases q) fun b4 h4=>?_;refine Is.bind (φ:=fun b=>b=true->b4=true/\x.Trains.length<=10) (Is.cond (fun q=>Is.val fun e=>⟨q,by have:=of_decide_eq_true e; omega⟩) fun _=>Is.val fun q=>by cases q) fun b5 h5=>?_;refine Is.cond (fun q=>(Keg h.tr).mono fun c hc e=>?_) fun _=>Is.val fun q=>by cases q
 obtain ⟨q5,q6⟩:=h5 q;obtain ⟨q3,q4⟩:=h4 q5;exact ⟨hc e,h2 q3,q4,q6⟩
theorem Jjy(L:List Int)(e:Int)(h:L.length<=1048576):Is (Wk L e) fun b=>b=true↔e∈L:=by
 unfold Wk Fe;refine Is.bind (φ:=fun r=>0<=r↔e∈L) ?_ fun r hr=>Is.val (by rw [decide_eq_true_iff]; exact hr);refine Is.all (L:=L) (fun _ x=>e≠x) () oG (fun i x hx hi _=>?_) (by simp [Dp]) (fun hn=>Is.val (iff_of_false oG fun hm=>?_))
 ·unfold Dp;refine Is.inb hi (Is.at hx (Is.cond (fun hc=>Is.val (iff_of_true oG ?_)) fun hc=>Is.val ⟨rfl,of_decide_eq_false hc⟩));rw [of_decide_eq_true hc];exact aC hx
 ·obtain ⟨i,hi⟩:=aS hm;exact hn i e hi rfl
theorem Jyj{T:List Je}(hT:T.length<=1000)(hf:∀ k∈T,Ji9 k)(r:Int):Is (Qb T r) fun b=>b=true↔∃ k∈T,r∈k.Routes:=by
 unfold Qb Uh;refine Is.bind (φ:=fun q=>0<=q↔∃ k∈T,r∈k.Routes) ?_ fun q hq=>Is.val (by rw [decide_eq_true_iff]; exact hq);refine Is.all (L:=T) (fun _ k=>r∉k.Routes) () oG (fun i k hx hi _=>?_) (by simp [Vw]) (fun hn=>Is.val (iff_of_false oG fun ⟨k,hk,hm⟩=>?_))
 ·have hk:=aC hx;have hl:=(hf k hk).routes;unfold Vw;refine Is.inb hi (Is.at hx ?_);unfold Rb;rw [Jej];refine (Jjy k.Routes r oG).bind fun b hb=>?_;refine Is.ite hb (fun hp=>Is.val (iff_of_true oG ⟨k,hk,hp⟩)) fun hp=>Is.val ⟨rfl,hp⟩
 ·obtain ⟨i,hi⟩:=aS hk;exact hn i k hi hm
def Ey(t:Jq)(s:Jx)(T:List Je)(e r:Int):Prop :=
 0<=r/\r<(t.Routes.length:Nat)/\r<(s.Routes.length:Nat)/\(∃ x,t.Routes[r.toNat]? = some x/\x.Entry=e)/\(∃ y,s.Routes[r.toNat]? = some y/\y.State=2)/\∀ k∈T,r∉k.Routes
theorem Kec{t:Jq}{s:Jx}{T:List Je}(ht:t.Routes.length<=1000)(hT:T.length<=1000)(hf:∀ k∈T,Ji9 k)(e:Int) :
  Is (Fa t s T e) fun r=>(r = -1/\∀ q,¬ Ey t s T e q)\/(Ey t s T e r/\∀ q,q<r->¬ Ey t s T e q):=by
 unfold Fa;refine Is.all (L:=t.Routes) (fun i _=>¬ Ey t s T e (i:Nat)) () oG (fun i x hx hi hI=>?_) (by simp [Xc]) (fun hn=>Is.val (.inl ⟨rfl,fun q hq=>?_⟩))
 ·have hprev:∀ q,q<(i:Int)->¬ Ey t s T e q:=fun q hq hR=>by
   have h0:=hR.1;have:=hI q.toNat (t.Routes[q.toNat]'(by omega)) oG (aB _);rw [show ((q.toNat:Nat):Int)=q by omega] at this;exact this hR
  unfold Xc;refine Is.inb hi ?_;refine Is.onInl (θ:=fun o=>(o=.inl ()/\¬ Ey t s T e (i:Nat))\/(o=.inr (.inr (.inr (-1)))/\∀ q,¬ Ey t s T e q)\/(o=.inr (.inr (.inr (i:Int)))/\Ey t s T e (i:Nat))) (Is.at hx ?_) (fun v hv=>?_) (fun b hb=>?_)
  ·refine Is.cond (fun hc=>Is.val (.inr (.inl ⟨rfl,fun q hq=>?_⟩))) fun hc=>?_
   ·have hc:=of_decide_eq_true hc
    by_cases hqi:q<(i:Int)
    ·exact hprev q hqi hq
    ·have:=hq.2.2.1; omega
   ·have hc:=of_decide_eq_false hc;refine Is.bind (φ:=fun b=>b=true↔¬ (x.Entry=e/\∃ y,s.Routes[i]? = some y/\y.State=2)) ?_ fun b hb=>?_
    ·refine Is.cond (fun hc1=>Is.val (iff_of_true rfl fun q=>?_)) fun hc1=>?_
     ·rw [bL,decide_eq_false_iff_not] at hc1;exact hc1 q.1
     ·rw [eO,decide_eq_true_iff] at hc1;have hg:=aB (show i<s.Routes.length by omega);refine Is.at hg (Is.val ?_);rw [bL,decide_eq_false_iff_not,hg];exact ⟨fun q ⟨_,y,e1,e2⟩=>by cases e1; exact q e2,fun q e2=>q ⟨hc1,_,rfl,e2⟩⟩
    refine Is.ite hb (fun hp=>Is.val (.inl ⟨rfl,fun hR=>hp ?_⟩)) fun hp=>?_
    ·obtain ⟨_,_,_,⟨x',e1,e2⟩,⟨y,e3,e4⟩,_⟩:=hR;rw [cP] at e1 e3;rw [hx] at e1; cases e1;exact ⟨e2,y,e3,e4⟩
    ·have hp:=dE hp;refine (Jyj hT hf (i:Int)).bind fun b2 hb2=>?_;refine Is.ifn hb2 (fun hn=>Is.val (.inr (.inr ⟨rfl, ?_⟩))) fun hm=>Is.val (.inl ⟨rfl,fun hR=>?_⟩)
     ·exact ⟨by omega,by omega,by omega,⟨x,by rw [cP]; exact hx,hp.1⟩,by rw [cP]; exact hp.2,fun k hk hm=>hn ⟨k,hk,hm⟩⟩
     ·obtain ⟨k,hk,hm⟩:=hm;exact hR.2.2.2.2.2 k hk hm
  ·rcases hv with ⟨_,hv⟩|⟨hv,_⟩|⟨hv,_⟩
   ·exact Is.val ⟨rfl,hv⟩
   ·cases hv
   ·cases hv
  ·rcases hb with ⟨hb,_⟩|⟨hb,hq⟩|⟨hb,hq⟩
   ·cases hb
   ·cases hb; exact .inl ⟨rfl,hq⟩
   ·cases hb; exact .inr ⟨hq,hprev⟩
 ·have h0:=hq.1;have:=hn q.toNat (t.Routes[q.toNat]'(by have:=hq.2.1; omega)) (aB _);rw [show ((q.toNat:Nat):Int)=q by omega] at this;exact this hq
def Ib(s:Jx)(r:Int):Bool:=if 0<=r/\r<(s.Routes.length:Nat) then ((s.Routes[r.toNat]?).map fun y=>decide (y.State=3)||decide (y.State=4)).getD false else false
theorem Jjq(r:Int)(s:Jx):Ws r s=some (!Ib s r):=by
 have:Is (Ws r s) fun b=>b = !Ib s r:=by
  unfold Ws Ib;refine Is.bind (Is.or Km fun _=>Is.val Km) fun b hb=>Is.ite hb (fun hp=>Is.val (by rw [if_neg oG]; rfl)) fun hp=>?_;rw [if_pos oG];refine (Is.ix oG oG).bind fun y hy=>Is.val ?_;rw [hy];simp
 obtain ⟨b,h1,rfl⟩:=this;exact h1
theorem Kdg{L:List Int}(h:L.length<=1000)(s:Jx):Is (Ql L s) fun r=>r.1.take r.2=L.filter (Ib s):=by
 unfold Ql Uo;have hN:(((L:List Int).map cellsOf).length)=L.length:=aV _;refine Is.bind (φ:=fun r=>(r = -1/\∀ x∈L,Ib s x=true)\/∃ i:Nat,r=(i:Int)/\i<L.length/\(∀ x∈L.take i,Ib s x=true)/\∀ x,L[i]? = some x->Ib s x=false) ?_ fun r hr=>?_
 ·refine Is.all (L:=L) (fun _ x=>Ib s x=true) () oG (fun i x hx hi hI=>?_) (by simp [Za]) (fun hn=>Is.val (.inl ⟨rfl,Va.1 hn⟩));unfold Za;refine Is.inb hi (Is.at hx ?_);rw [Jjq,aA];cases hh:Ib s x with
  | true=>exact Is.val ⟨rfl,rfl⟩
  | false=>exact Is.val (.inr ⟨i,rfl,hi,Kfg.2 hI,fun y hy=>by rw [hx] at hy; cases hy; exact hh⟩)
 rw [hN];rcases hr with ⟨rfl,hall⟩|⟨i,rfl,hi,hpre,hdel⟩
 ·rw [decide_eq_true rfl,cond_true];exact Is.val (by simp only; rw [aR,List.filter_eq_self.2 hall])
 ·rw [decide_eq_false oG,cond_false];refine Is.onInl (θ:=fun o=>∃ (M:List Int) (p:Nat),o=.inl (M,(p:Int))/\p<=L.length/\M.length=L.length/\M.take p=L.filter (Ib s)) ?_ (fun v hv=>?_) (fun b hb=>by obtain ⟨_,_,e,_⟩:=hb; cases e)
  ·rw [Zi oG];refine Is.loop (mk:=fun k (q:Nat×List Int)=>((q.1:Int),((i+1+k:Nat):Int),q.2)) (L.length - (i+1)) (fun k q=>q.1<=i+k/\q.2.length=L.length/\q.2.take q.1=(L.take (i+1+k)).filter (Ib s)/\∀ j,i+1+k<=j->q.2[j]? = L[j]?) (i,L) ⟨by simp,rfl, ?_,fun j _=>rfl⟩ (fun k q hk hI=>?_) (fun q hI=>?_)
   ·obtain ⟨x,hx⟩:∃ x,L[i]? = some x:=⟨_,aB hi⟩
    simp only [cU];rw [Qw hx,cS,List.filter_eq_self.2 hpre,List.filter_cons_of_neg (by rw [hdel x hx]; simp)];simp
   ·obtain ⟨p,M⟩:=q;obtain ⟨g1,g2,g3,g4⟩:=hI;simp only at g1 g2 g3 g4;have hx:L[i+1+k]? = some (L[i+1+k]'(by omega)):=aB _;generalize L[i+1+k]'(by omega)=x at hx;have hMx:M[i+1+k]? = some x:=by rw [g4 _ (aJ _)]; exact hx
    simp only [Yo,hN];rw [decide_eq_true oG,cond_true];have hp:p<M.length:=by omega
    refine Is.onInl (θ:=fun o=>∃ (M':List Int) (p':Nat),o=.inl (M',(p':Int))/\p'<=i+(k+1)/\M'.length=L.length/\M'.take p'=(L.take (i+1+(k+1))).filter (Ib s)/\∀ j,i+1+(k+1)<=j->M'[j]? = L[j]?) ?_ (fun v hv=>?_) (fun b hb=>by obtain ⟨_,_,e,_⟩:=hb; cases e)
    ·rw [Jzh 0 (show i+1+k<L.length by omega),aA,aW,Jur g2,hMx,aA,Jjq,aA];have htk:(L.take (i+1+(k+1))).filter (Ib s)=(L.take (i+1+k)).filter (Ib s)++[x].filter (Ib s):=by
      rw [show i+1+(k+1)=(i+1+k)+1 by omega,Qw hx,cS]
     cases hh:Ib s x with
     | true=>
      simp only [aX,cH,cond_true];rw [Jzh 0 (show p<L.length by omega),aA,aW,Jur g2,aB hp,aA,Zi oG];refine Is.val ⟨_,p+1,rfl,by omega,by rw [cG]; exact g2, ?_,fun j hj=>?_⟩
      ·have h1:(M.set p x)[p]? = some x:=by rw [dM hp]
       have h2:(M.set p x).take p=M.take p:=by
        apply dB;intro j;rw [bS,bS]
        by_cases hj:j<p
        ·rw [if_pos hj,if_pos hj,cQ oG]
        ·rw [if_neg hj,if_neg hj]
       rw [Qw h1,h2,g3,htk];simp [hh]
      ·rw [cQ oG];exact g4 j oG
     | false=>
      simp only [aX,cH,cond_false];refine Is.val ⟨M,p,rfl,by omega,g2, ?_,fun j hj=>g4 j oG⟩;rw [g3,htk];simp [hh]
    ·obtain ⟨M',p',e,q1,q2,q3,q4⟩:=hv;cases e;exact Is.val ⟨(p',M'),by rw [Zi oG]; rfl,q1,q2,q3,q4⟩
   ·obtain ⟨p,M⟩:=q;obtain ⟨g1,g2,g3,g4⟩:=hI;simp only at g1 g2 g3 g4;simp only [Yo,hN];rw [decide_eq_false oG,cond_false];exact Is.val ⟨M,p,rfl,by omega,g2,by rw [g3,dV oG]⟩
  ·obtain ⟨M,p,e,h1,h2,h3⟩:=hv;cases e;have hsl:Jzw L.length (some ((p:Nat):Int)) none=some (p,L.length):=by
    unfold Jzw Jjs;simp [h1]
   have hcl:Jvx M L.length (0+p) (L.length - p) (0:Int)=some (M.take p++List.replicate (L.length - p) 0++M.drop (p+(L.length - p))):=by
    unfold Jvx;rw [aW,if_pos ⟨h2,by omega⟩]
   have hsh:Jwm L.length ((p:Nat):Int)=some p:=by
    unfold Jwm;rw [if_pos oG];simp
   simp only [hsl,hcl,hsh,aA];refine Is.val ?_;simp only;rw [bC,eP (by rw [aT]; omega),List.take_take,Nat.min_self];exact h3
theorem Khn{L:List Int}(h:L.length<=1000):Zf L=some L:=by
 unfold Zf; rw [Gv (by simp only [Js,Enc.b]; omega)]; rfl
def Nw(s:Jx)(k:Je):Je:=Je.mk k.Id k.Origin k.End k.At k.Steps k.Routes k.Starts k.Ends (k.Done.filter (Ib s)) k.Min k.Sent k.Accepted k.Cut k.CutSeq
theorem Kc6{k:Je}(h:Ji9 k)(s:Jx):Cx k s=some (Nw s k):=by
 have:Is (Cx k s) fun r=>r=Nw s k:=by
  unfold Cx;rw [Jyt h.steps,Jci h.routes,Jci h.starts,Jci h.ends,Khn h.done];simp only [aA];refine (Kdg h.done s).bind fun r hr=>Is.val ?_;unfold Nw;rw [hr]
 obtain ⟨r,h1,rfl⟩:=this;exact h1
theorem Jwb{A:Type}{D:Option (Unit⊕A)}{f:Unit->Option A}{G:A->Prop}{p:Prop}(h:Is D fun o=>match o with|.inl _=>p|.inr b=>G b)(hf:p->Is (f ()) G):Is (onInl D f) G :=
 Is.onInl (θ:=fun o=>match o with|.inl _=>p|.inr b=>G b) h (fun _ hv=>hf hv) fun _ hb=>hb
structure ExtP (k k':Je) (r:Int):Prop where
 routes:k'.Routes=k.Routes++[r]
 steps:k'.Steps.length<=64
 starts:k'.Starts.length=k.Starts.length+1
 ends:k'.Ends.length=k.Ends.length+1
 done:k'.Done=k.Done
 origin:k'.Origin=k.Origin
structure Kiq (n:Nat) (k:Je):Prop where
 steps:k.Steps.length<=100
 starts:k.Starts.length=k.Routes.length
 ends:k.Ends.length=k.Routes.length
 done:k.Done.length<=60
 rng:∀ r∈k.Routes,0<=r/\r<(n:Int)
 origin:-1073741824<=k.Origin/\k.Origin<=1073741824
def allR(T:List Je):List Int:=T.flatMap (·.Routes)
def Kkn(s:Jx)(r:Int):Prop:=0<=r/\r<(s.Routes.length:Nat)/\∃ y,s.Routes[r.toNat]? = some y/\y.State=2
structure GInv (t:Jq) (s:Jx) (old T:List Je):Prop where
 len:T.length=old.length
 ok:∀ k∈T,Kiq t.Routes.length k
 nd:(allR T).Nodup
 more:∀ (j:Nat) k0 k,old[j]? = some k0->T[j]? = some k->∃ ex,k.Routes=k0.Routes++ex/\∀ r∈ex,Kkn s r
structure OffP (k k':Je):Prop where
 routes:k'.Routes=k.Routes
 steps:k'.Steps=k.Steps
 starts:k'.Starts=k.Starts
 ends:k'.Ends=k.Ends
 done:k'.Done=k.Done
 origin:k'.Origin=k.Origin
theorem Kfk{l:Ja}(h:Sm l){r:Jq×Int}(hr:Bm l=some r)(h0:r.2=0):OkL l:=by
 refine (Kd7 l).1 (dE fun hc=>?_);unfold Bm at hr;rw [Kg3 h,if_neg hc,aA] at hr;simp only at hr;rw [decide_eq_false hc] at hr;cases hr;exact hc h0
theorem Jpx{L:List Int}(hl:L.length<=1000):Is (Wf L) fun b=>b=true->∀ x∈L,-1073741824<=x/\x<=1073741824:=by
 unfold Wf;refine Is.all (L:=L) (fun _ x=> -1073741824<=x/\x<=1073741824) () oG (fun i x hx hi _=>?_) (by simp [Cm]) (fun hn=>Is.val fun _=>Va.1 hn);unfold Cm;refine Is.inb hi (Is.at hx ?_);refine Is.cond (fun _=>Is.val fun e=>by cases e) fun hc=>Is.val ⟨rfl, ?_⟩;simp only [dZ,decide_eq_false_iff_not] at hc;omega
structure PrK (l:Ja) (k:Je):Prop where
 valid:Vo l k.Steps
 mn:-1073741824<=k.Min/\k.Min<=1073741824
theorem Jvo{l:Ja}(h:Sm l){t:Jq}(ht:t.Routes.length<=1000){k:Je}(hs:k.Steps.length<=100)(hr:k.Routes.length<=60)(h1:k.Starts.length<=60)(h2:k.Ends.length<=60)(h3:k.Done.length<=60) :
  Is (Iq l t k) fun b=>b=true->Kiq t.Routes.length k/\PrK l k:=by
 unfold Iq;refine (Et l k.Steps h.jo oG).bind fun r1 hr1=>?_;refine Is.bind (φ:=fun b=>b=false->r1=true/\k.Starts.length=k.Routes.length) (Is.cond (fun _=>Is.val fun e=>by cases e) fun hv=>Is.val fun e=>by
  rw [eO,decide_eq_true_iff] at e; exact ⟨by simpa using hv,by omega⟩) fun b2 hb2=>?_
 refine Is.bind (φ:=fun b=>b=false->b2=false/\k.Ends.length=k.Routes.length) (Is.cond (fun _=>Is.val fun e=>by cases e) fun hc=>Is.val fun e=>by
  rw [eO,decide_eq_true_iff] at e; exact ⟨hc,by omega⟩) fun b3 hb3=>?_
 refine Is.bind (φ:=fun b=>b=false->b3=false/\(-1073741824<=k.Origin/\k.Origin<=1073741824)/\(-1073741824<=k.Min/\k.Min<=1073741824)) (Is.cond (fun _=>Is.val fun e=>by cases e) fun hc=>(Jpx sG).bind fun c hco=>Is.val fun e=>⟨hc,hco (by simpa using e) k.Origin sG,hco (by simpa using e) k.Min sG⟩) fun b4 hb4=>?_;refine Is.bind (φ:=fun b=>b=false->b4=false) (Is.cond (fun _=>Is.val fun e=>by cases e) fun hc=>(Jpx oG).bind fun c _=>Is.val fun _=>hc) fun b6 hb6=>?_;refine Is.bind (φ:=fun b=>b=false->b6=false) (Is.cond (fun _=>Is.val fun e=>by cases e) fun hc=>(Jpx oG).bind fun c _=>Is.val fun _=>hc) fun b8 hb8=>?_;refine Is.cond (fun _=>Is.val fun e=>by cases e) fun hc=>?_;obtain ⟨q3,q4,q7⟩:=hb4 (hb6 (hb8 hc));obtain ⟨q2,q5⟩:=hb3 q3;obtain ⟨q8,q6⟩:=hb2 q2;refine Is.onInl (θ:=fun o=>(∃ v,o=.inl v/\∀ r∈k.Routes,0<=r/\r<(t.Routes.length:Nat))\/o=.inr false) ?_ (fun v hv=>?_) (fun b hb=>?_)
 ·refine Is.loop (mk:=fun i (q:Bool)=>(q,(i:Int))) k.Routes.length (fun i _=>∀ r∈k.Routes.take i,0<=r/\r<(t.Routes.length:Nat)) (decide (k.CutSeq=0)) (fun r hr=>by simp at hr) (fun i q hi hI=>?_) (fun q hI=>?_)
  ·obtain ⟨r,hr1⟩:∃ r,k.Routes[i]? = some r:=⟨_,aB hi⟩
   simp only [Ma];rw [decide_eq_true oG,cond_true];refine Is.at hr1 ?_;refine Is.bind (Is.or Km fun _=>Is.val Km) fun b26 hb26=>?_;refine Is.ite hb26 (fun _=>Is.val (.inr rfl)) fun hp=>?_;refine Is.bind (φ:=fun _=>True) ?_ fun b27 _=>Is.val ⟨b27,by rw [Zi oG],fun z hz=>?_⟩
   ·refine Is.cond (fun _=>Is.val trivial) fun _=>?_;refine Is.bind (φ:=fun _=>True) (Is.cond (fun _=>?_) fun _=>Is.val trivial) fun _ _=>Is.val trivial;refine (Is.ixn (show i<k.Ends.length by omega)).bind fun e _=>?_;exact (Is.ix oG oG).bind fun y _=>Is.val trivial
   ·rw [Qw hr1,aY,cA] at hz;rcases hz with hz|rfl
    ·exact hI z hz
    ·omega
  ·simp only [Ma];rw [decide_eq_false oG,cond_false];exact Is.val (.inl ⟨q,rfl,by rw [aR] at hI; exact hI⟩)
 ·rcases hv with ⟨v',e,hrng⟩|e
  ·exact Is.val fun _=>⟨⟨hs,q6,q5,h3,hrng,q4⟩,hr1.1 q8,q7⟩
  ·cases e
 ·rcases hb with ⟨_,e,_⟩|e
  ·cases e
  ·cases e;intro e; cases e
structure Ket (x:Jz):Prop where
 bulk:Kgj x
 sm:Sm x.Layout
 nm:∀ t∈x.Trains,t.Name.size<=1048576
theorem Kes{x:Jz}(h:Ket x):Is (Mj x) fun b=>b=true->OkL x.Layout/\Kc0 x.Center/\x.Table.Routes.length<=50/\x.Slow.length<=20/\(∀ r∈x.Table.Routes,r.Sections.length<=30/\r.Path.length<=30)/\(∀ k∈x.Center.Tracks,Kiq x.Table.Routes.length k)/\(∀ r∈x.Table.Routes,TbR x.Layout r)/\(∀ k∈x.Center.Tracks,k.Routes.length<=60/\PrK x.Layout k)/\∀ t∈x.Trains,Jvl t=0:=by
 unfold Mj;obtain ⟨r1,e1,h1⟩:=Jq2 h.sm;rw [e1,aA];refine (Jyo h.bulk).bind fun r2 h2=>?_;refine Is.bind (φ:=fun b=>b=false->(r2=true/\r1.2=0)/\r1.1.Routes=x.Table.Routes) ?_ fun b3 hb3=>?_
 ·refine Is.cond (fun _=>Is.val fun e=>by cases e) fun hc=>?_;simp only [dZ,eO,decide_eq_true_eq] at hc;obtain ⟨q1,q2,q3,q4⟩:=h1 hc.2;exact (Kcm (t:=x.Table) (fun rt hrt=>(q4 rt hrt).few) q1 q2 q3).bind fun r4 hr4=>Is.val fun e=>⟨hc,hr4 (by simpa using e)⟩
 refine Is.cond (fun _=>Is.val fun e=>by cases e) fun hc=>?_;obtain ⟨⟨q1,q2⟩,q3⟩:=hb3 hc;obtain ⟨⟨f1,f2,f3,f4⟩,⟨g1,g2,g3⟩,g4,g5⟩:=h2 q1;have hO:=Kfk h.sm e1 q2;refine Is.all (L:=x.Trains) (fun _ t=>Jvl t=0) () oG (fun i y hy hi _=>?_) (by simp [Ni]) (fun htr=>?_)
 ·unfold Ni;refine Is.inb hi (Is.at hy ?_);rw [Jpu (h.nm y (aC hy)),aA];exact Is.cond (fun _=>Is.val fun e=>by cases e) fun hc=>Is.val ⟨rfl,by simpa using hc⟩
 ·unfold Tx;rw [Jej];refine Is.all (L:=x.Center.Tracks) (fun _ k=>Kiq x.Table.Routes.length k/\PrK x.Layout k) () oG (fun i k hk hi _=>?_) (by simp [Np]) (fun hn=>Is.val fun _=>⟨hO,f1,g1,g4,g3,fun k hk=>(Va.1 hn k hk).1,fun rt hrt=>(h1 q2).2.2.2 rt (by rw [q3]; exact hrt),fun k hk=>⟨(f4 k hk).2.1,(Va.1 hn k hk).2⟩,Va.1 htr⟩);unfold Np;refine Is.inb hi (Is.at hk ?_);obtain ⟨a1,a2,a3,a4,a5⟩:=f4 k (aC hk);refine (Jvo h.sm (t:=x.Table) oG a1 a2 a3 a4 a5).bind fun r hr=>?_;cases r with
  | true=>exact Is.val ⟨rfl,hr rfl⟩
  | false=>exact Is.val fun e=>by cases e
theorem Jwt{k:Je}(h:Ji9 k):Ig k=some k:=by
 have h1:=h.steps; have h2:=h.routes; have h3:=h.starts; have h4:=h.ends; have h5:=h.done;unfold Ig;rw [Gv (by simp only [Js,Enc.b]; omega),Gv (by simp only [Js,Enc.b]; omega),Gv (by simp only [Js,Enc.b]; omega),Gv (by simp only [Js,Enc.b]; omega),Gv (by simp only [Js,Enc.b]; omega)]
 rfl
theorem Jyd{k:Je}(h:Ji9 k)(s:Jx):Ej k s=some (Nw s k):=by
 have hd:=h.done;have:Is (Ej k s) fun r=>r=Nw s k:=by
  unfold Ej;rw [Jwt h,aA];refine Is.fold (L:=k.Done) (mk:=fun i (M:List Int)=>(i,M)) (fun i M=>M=(k.Done.take i).filter (Ib s)) [] oG sG (fun i y M hy hi hM=>?_) fun M hM=>?_
  ·unfold Lt;dsimp only;refine Is.inb hi ?_;have hlen:M.length<=1000:=by rw [hM]; exact bG (bZ _ _) (by rw [aT]; omega)
   refine Is.onInl (θ:=fun r=>r=.inl ((k.Done.take (i+1)).filter (Ib s))) (Is.at hy ?_) (fun v hv=>?_) fun b hb=>by cases hb
   ·refine Is.bind (φ:=fun b=>b=true↔(0<=y/\y<(s.Routes.length:Nat))) (Is.and Km fun _=>Is.val Km) fun b60 h60=>?_;refine Is.bind (φ:=fun b=>b=Ib s y) ?_ fun b61 h61=>?_
    ·refine Is.ite h60 (fun hp=>?_) fun hn=>Is.val (by unfold Ib; rw [if_neg hn]);unfold Ib;rw [if_pos hp];refine (Is.ix hp.1 hp.2).bind fun z hz=>?_;rw [hz,Jej];refine Is.cond (fun hc=>Is.val (by simp [of_decide_eq_true hc])) fun hc=>?_;refine (Is.ix hp.1 hp.2).bind fun z2 hz2=>?_;rw [hz] at hz2; cases hz2;exact Is.val (by simp [of_decide_eq_false hc])
    subst h61;rw [Qw hy,cS];cases hh:Ib s y with
    | true=>
     refine (Is.app (by simp only [aE,aF,Js,Enc.b]; omega)).bind fun M' hM'=>Is.val ?_;rw [hM',hM]; simp [hh]
    | false=>exact Is.val (by rw [hM]; simp [hh])
   ·cases hv;exact Is.val ⟨_,rfl,rfl⟩
  ·unfold Lt;refine Is.oub (Is.val (Is.val ?_));rw [hM,aR]; rfl
 obtain ⟨r,h1,rfl⟩:=this;exact h1
theorem Jtn{T:List Je}(hT:T.length<=1000)(hf:∀ k∈T,Ji9 k)(r:Int):Is (Gj T r) fun b=>b=true↔∃ k∈T,r∈k.Routes:=by
 unfold Gj;refine Is.all (L:=T) (fun _ k=>r∉k.Routes) () oG (fun i k hx hi _=>?_) (by simp [Ht]) (fun hn=>Is.val (iff_of_false sG fun ⟨k,hk,hm⟩=>?_))
 ·have hk:=aC hx;unfold Ht;refine Is.inb hi (Is.at hx ?_);rw [Jec _ _ (by have:=(hf k hk).routes; omega),aA];exact Is.ite Km (fun hp=>Is.val (iff_of_true rfl ⟨k,hk,hp⟩)) fun hp=>Is.val ⟨rfl,hp⟩
 ·obtain ⟨i,hi⟩:=aS hk;exact hn i k hi hm
theorem Kc5{t:Jq}{s:Jx}{T:List Je}(ht:t.Routes.length<=1000)(hT:T.length<=1000)(hf:∀ k∈T,Ji9 k)(k:Je) :
  Is (Fo t s T k) fun r=>(r = -1/\∀ q,¬ Ey t s T k.End q)\/(Ey t s T k.End r/\∀ q,q<r->¬ Ey t s T k.End q):=by
 unfold Fo;refine Is.onInl (θ:=fun o=>(o=.inl ()/\∀ q,¬ Ey t s T k.End q)\/∃ r,o=.inr r/\Ey t s T k.End r/\∀ q,q<r->¬ Ey t s T k.End q) ?_ (fun v hv=>?_) (fun b hb=>?_)
 ·refine Is.loop (mk:=fun i (_:Unit)=>(i:Int)) (min t.Routes.length s.Routes.length) (fun i _=>∀ q,q<(i:Int)->¬ Ey t s T k.End q) () (fun q hq hR=>by have:=hR.1; omega) (fun i _ hi hprev=>?_) (fun _ hI=>?_)
  ·have hx:=aB (show i<t.Routes.length by omega);generalize t.Routes[i]'(by omega)=x at hx;have hg:=aB (show i<s.Routes.length by omega);generalize s.Routes[i]'(by omega)=y at hg;have hnext:¬ Ey t s T k.End (i:Nat)->∀ q,q<((i+1:Nat):Int)->¬ Ey t s T k.End q:=fun hn q hq=>by
    by_cases hqi:q<(i:Int)
    ·exact hprev q hqi
    ·rw [show q=(i:Int) by omega]; exact hn
   unfold Re;rw [decide_eq_true oG,cond_true,aA,decide_eq_true oG,cond_true];refine Is.at hg ?_;refine Is.bind (φ:=fun b=>b=true↔(y.State=2/\x.Entry=k.End)) (Is.and Km fun _=>Is.at hx (Is.val Km)) fun b16 h16=>?_;refine Is.bind (φ:=fun b=>b=true↔((y.State=2/\x.Entry=k.End)/\¬ ∃ k∈T,(i:Int)∈k.Routes)) (Is.and h16 fun _=>Is.not (Jtn hT hf i)) fun b18 h18=>?_;refine Is.ite h18 (fun hq=>Is.val (.inr ⟨_,rfl, ?_,hprev⟩)) fun hq=>Is.val ⟨(),by rw [Zi oG],hnext fun hR=>hq ?_⟩
   ·exact ⟨by omega,by omega,by omega,⟨x,by rw [cP]; exact hx,hq.1.2⟩,⟨y,by rw [cP]; exact hg,hq.1.1⟩,fun k hk hm=>hq.2 ⟨k,hk,hm⟩⟩
   ·obtain ⟨_,_,_,⟨x',e1,e2⟩,⟨y',e3,e4⟩,e5⟩:=hR;rw [cP,hx] at e1; cases e1;rw [cP,hg] at e3; cases e3;exact ⟨⟨e4,e2⟩,fun ⟨k,hk,hm⟩=>e5 k hk hm⟩
  ·unfold Re;refine Is.bind (φ:=fun b=>b=false) ?_ fun b hb=>?_
   ·exact Is.cond (fun hc=>Is.val (decide_eq_false (by have:=of_decide_eq_true hc; omega))) fun _=>Is.val rfl
   ·rw [hb,cond_false];refine Is.val (.inl ⟨rfl,fun q hq=>hI q ?_ hq⟩);have h1:=hq.2.1; have h2:=hq.2.2.1;omega
 ·rcases hv with ⟨_,hv⟩|⟨_,e,_⟩
  ·exact Is.val (.inl ⟨rfl,hv⟩)
  ·cases e
 ·rcases hb with ⟨e,_⟩|⟨r,e,h1,h2⟩
  ·cases e
  ·cases e; exact .inr ⟨h1,h2⟩
theorem Kck{t:Jq}{s:Jx}{T:List Je}(ht:t.Routes.length<=1000)(hT:T.length<=1000)(hf:∀ k∈T,Ji9 k)(k:Je) :
  ∃ r,Fa t s T k.End=some r/\Fo t s T k=some r/\((r = -1/\∀ q,¬ Ey t s T k.End q)\/Ey t s T k.End r):=by
 obtain ⟨r,e1,h1⟩:=Kec (t:=t) (s:=s) ht hT hf k.End;obtain ⟨r',e2,h2⟩:=Kc5 (t:=t) (s:=s) ht hT hf k;have:r'=r:=by
  rcases h1 with ⟨a1,a2⟩|⟨a1,a2⟩
  ·rcases h2 with ⟨b1,b2⟩|⟨b1,b2⟩
   ·omega
   ·exact absurd b1 (a2 r')
  ·rcases h2 with ⟨b1,b2⟩|⟨b1,b2⟩
   ·exact absurd a1 (b2 r)
   ·rcases Int.lt_trichotomy r r' with h|h|h
    ·exact absurd a1 (b2 r h)
    ·exact h.symm
    ·exact absurd b1 (a2 r' h)
 subst this;exact ⟨r',e1,e2,h1.imp id fun h=>h.1⟩
def Jp8(k:Je)(x:Jh):Bool:=x.Path.any fun s=>k.Steps.any fun o=>decide (o.El=s.El)
def Jfh(l:Ja)(z:Int)(p:List Jb):Int:=p.foldl (fun a s=>if Jig l s.El=z then w64 (a+lenOf l s) else a) 0
theorem Jqx(l:Ja)(z:Int)(p:List Jb)(s:Jb):Jfh l z (p++[s])=if Jig l s.El=z then w64 (Jfh l z p+lenOf l s) else Jfh l z p:=by
 unfold Jfh; rw [List.foldl_append]; rfl
def Jnf(k:Je)(x:Jh):Prop:=64<w64 (((k.Steps.length:Nat):Int)+((x.Path.length:Nat):Int))\/1073741824<w64 (k.At+x.Length)
instance {k:Je}{x:Jh}:Decidable (Jnf k x):=by unfold Jnf; exact inferInstance
def Kk9(l:Ja)(k:Je)(x:Jh)(z i:Int):Je :=
 Je.mk k.Id k.Origin x.Exit (w64 (k.At+x.Length)) (k.Steps++x.Path) (k.Routes++[i]) (k.Starts++[w64 (w64 (k.At+x.Length) - Jfh l z x.Path)]) (k.Ends++[w64 (k.At+x.Length)]) k.Done k.Min k.Sent k.Accepted k.Cut k.CutSeq
def Jjp(l:Ja)(k:Je)(x:Jh)(z i:Int):Je×Int :=
 if Jp8 k x=true\/i∈k.Routes then (tr0,8) else if Jnf k x then (tr0,2) else (Kk9 l k x z i,0)
structure RtT (l:Ja) (x:Jh):Prop where
 path:x.Path.length<=30
 secs:x.Sections.length<=30
 sn:0<x.Sections.length
 el:∀ s∈x.Path,Um l s.El=true
theorem Kk4{k:Je}(h:k.Steps.length<=1000)(s:Jb):Yv s k=some (k.Steps.any fun o=>decide (o.El=s.El)):=by
 have:Is (Yv s k) fun b=>b=(k.Steps.any fun o=>decide (o.El=s.El)):=by
  unfold Yv Qf Qp;simp only [Jej];refine Is.bind (φ:=fun q=>0<=q↔∃ o∈k.Steps,o.El=s.El) ?_ fun q hq=>Is.val (dA.2 (by rw [decide_eq_true_iff,hq]; simp));refine Is.all (L:=k.Steps) (fun _ o=>o.El≠s.El) () oG (fun i x hx hi _=>?_) (by simp [Wh]) fun hn=>Is.val (iff_of_false oG fun ⟨o,ho,e⟩=>?_)
  ·unfold Wh Co;refine Is.inb hi (Is.at hx ?_);rw [aA];exact Is.ite Km (fun hp=>Is.val (iff_of_true oG ⟨x,aC hx,hp⟩)) fun hp=>Is.val ⟨rfl,hp⟩
  ·obtain ⟨i,hi⟩:=aS ho;exact hn i o hi e
 obtain ⟨b,h1,rfl⟩:=this;exact h1
theorem Khj{k:Je}(h:k.Steps.length<=1000){x:Jh}(hx:x.Path.length<=1000):Kp x.Path k=some (Jp8 k x):=by
 have:Is (Kp x.Path k) fun b=>b=Jp8 k x:=by
  unfold Kp Qx;refine Is.bind (φ:=fun q=>0<=q↔∃ s∈x.Path,(k.Steps.any fun o=>decide (o.El=s.El))=true) ?_ fun q hq=>Is.val (dA.2 (by rw [decide_eq_true_iff,hq]; unfold Jp8; rw [dH]));refine Is.all (L:=x.Path) (fun _ s=>¬ (k.Steps.any fun o=>decide (o.El=s.El))=true) () oG (fun i s hs hi _=>?_) (by simp [Qr]) fun hn=>Is.val (iff_of_false oG fun ⟨o,ho,e⟩=>?_)
  ·unfold Qr;refine Is.inb hi (Is.at hs ?_);rw [Kk4 h s,aA];exact Is.ite Iff.rfl (fun hp=>Is.val (iff_of_true oG ⟨s,aC hs,hp⟩)) fun hp=>Is.val ⟨rfl,hp⟩
  ·obtain ⟨i,hi⟩:=aS ho;exact hn i o hi e
 obtain ⟨b,h1,rfl⟩:=this;exact h1
section
variable {l:Ja} {t:Jq} {k:Je} {x:Jh} {i:Int}
theorem Jyr(h1:k.Steps.length<=1000)(h2:k.Routes.length<=1000)(hx:x.Path.length<=1000)(hi:0<=i/\i<(t.Routes.length:Nat))(hg:t.Routes[i.toNat]? = some x)(hc:k.CutSeq=0)(he:k.End ≠ -1)(hE:k.End=x.Entry) :
  Is (Ft t k i) fun o=>o=if Jp8 k x=true\/i∈k.Routes then .inl 8 else if Jnf k x then .inl 2 else .inr x:=by
 unfold Ft;refine Jwb (p:=True) ?_ fun _=>?_
 ·refine Is.bind (φ:=fun b=>b=false) ?_ fun b hb=>by subst hb; exact Is.val trivial
  rw [decide_eq_false oG,cond_false];exact Is.val (decide_eq_false oG)
 refine Is.bind (Is.ix hi.1 hi.2) fun y hy=>?_;rw [hg] at hy; cases hy;refine Jwb (p:=True) (by rw [decide_eq_true hc]; exact Is.val trivial) fun _=>?_;refine Jwb (p:=True) (by rw [decide_eq_false he,decide_eq_true hE]; exact Is.val trivial) fun _=>?_;refine Jwb (p:=¬ (Jp8 k x=true\/i∈k.Routes)) ?_ fun hnd=>?_
 ·rw [Khj h1 hx,aA];refine Is.bind (φ:=fun b=>b=true↔(Jp8 k x=true\/i∈k.Routes)) (Is.or Iff.rfl fun _=>by rw [Jej]; exact Jjy _ _ oG) fun b hb=>?_;exact Is.ite hb (fun hp=>Is.val (by rw [if_pos hp])) fun hp=>Is.val hp
 rw [if_neg hnd];refine Jwb (p:=¬ Jnf k x) ?_ fun hnl=>Is.val (by rw [if_neg hnl]);refine Is.ite (p:=Jnf k x) (by unfold Jnf; rw [bP,decide_eq_true_iff,decide_eq_true_iff]) (fun hp=>Is.val (by rw [if_pos hp])) fun hp=>Is.val hp
theorem Jyx(hO:OkL l)(hr:RtT l x){z:Int}(hz:x.Sections[x.Sections.length - 1]? = some z):Db l x=some (Jfh l z x.Path):=by
 have h1:=hr.path; have h2:=hr.secs; have h3:=hr.sn;have:Is (Db l x) fun r=>r=Jfh l z x.Path:=by
  unfold Db;rw [decide_eq_false oG,cond_false,Qt oG oG,show ((x.Sections.length:Nat):Int) - 1=((x.Sections.length - 1:Nat):Int) by omega];refine Is.at hz ?_;refine Is.fold (L:=x.Path) (mk:=fun i (o:Int)=>(o,i)) (fun i o=>o=Jfh l z (x.Path.take i)) 0 oG rfl (fun i y o hy hi ho=>?_) fun o ho=>?_
  ·unfold Hl;dsimp only;refine Is.inb hi ?_;refine Is.onInl (θ:=fun r=>r=.inl (Jfh l z (x.Path.take (i+1)))) (Is.at hy ?_) (fun v hv=>by cases hv; exact Is.val ⟨_,rfl,rfl⟩) fun b hb=>by cases hb
   rw [Jld,aA,Qw hy,Jqx,<- ho];refine Is.ite Km (fun hc=>?_) fun hc=>Is.val (by rw [if_neg hc]);unfold Gg;rw [Jo2 l _ sG,aA,if_pos hc];have hl:=hO.lens (hr.el y (aC hy));exact Is.val (by rw [show Uf l [y]=lenOf l y by simp [Uf],Qt (n:=lenOf l y) oG oG])
  ·unfold Hl;exact Is.oub (Is.val (Is.val (by rw [ho,aR])))
 obtain ⟨r,e,rfl⟩:=this;exact e
theorem Kb3(hO:OkL l)(hf:Ji9 k)(hr:RtT l x)(hi:0<=i/\i<(t.Routes.length:Nat))(hg:t.Routes[i.toNat]? = some x)(hc:k.CutSeq=0)(he:k.End ≠ -1)(hE:k.End=x.Entry){z:Int}(hz:x.Sections[x.Sections.length - 1]? = some z) :
  Yk l t k i=some (Jjp l k x z i):=by
 have g1:=hf.steps; have g2:=hf.routes; have g3:=hf.starts; have g4:=hf.ends; have hp:=hr.path;have:Is (Yk l t k i) fun o=>o=Jjp l k x z i:=by
  unfold Yk Kbp;refine (Jyr g1 g2 oG hi hg hc he hE).bind fun o ho=>?_;unfold Jjp
  by_cases hd:Jp8 k x=true\/i∈k.Routes
  ·rw [if_pos hd] at ho ⊢; subst ho; exact Is.val rfl
  rw [if_neg hd] at ho ⊢
  by_cases hL:Jnf k x
  ·rw [if_pos hL] at ho ⊢; subst ho; exact Is.val rfl
  rw [if_neg hL] at ho ⊢;subst ho;dsimp only;rw [Jyt hf.steps,Jci hf.routes,Jci hf.starts,Jci hf.ends,Jci hf.done];simp only [aA];refine Is.bind (Is.app (by simp only [Js,Enc.b]; omega)) fun x18 e18=>Is.bind (Is.app (by simp only [aE,aF,Js,Enc.b]; omega)) fun x19 e19=>?_;rw [Jyx hO hr hz,aA];refine Is.bind (Is.app (by simp only [aE,aF,Js,Enc.b]; omega)) fun x21 e21=>Is.bind (Is.app (by simp only [aE,aF,Js,Enc.b]; omega)) fun x22 e22=>?_;exact Is.val (by rw [e18,e19,e21,e22]; rfl)
 obtain ⟨r,e,rfl⟩:=this;exact e
end
section
variable {l:Ja} {t:Jq} {k:Je} {x:Jh} {i:Int}
theorem Keu{α:Type}{L:List α}{n:Nat}{y:α}{p:α->Bool}(h:L[n]? = some y):(L.take (n+1)).any p=((L.take n).any p||p y):=by
 rw [Qw h,List.any_append]; simp
theorem Kdu{β:Type}(h:k.Steps.length<=1000)(s:Jb){K:Unit->Option (Int⊕((Int×Int)⊕(Int⊕(Je×Int))))}{ψ:Int⊕((Int×Int)⊕(Int⊕(Je×Int)))->Prop}(h1:(k.Steps.any fun o=>decide (o.El=s.El))=true->ψ (.inr (.inr (.inr (tr0,8)))))(h2:(k.Steps.any fun o=>decide (o.El=s.El))=false->Is (K ()) ψ)(_:β=β):Is (onInl (Jp (En k s) 0) K) ψ:=by
 refine Is.all (L:=k.Steps) (fun _ o=>o.El≠s.El) () oG (fun i o ho hi _=>?_) (by simp [En]) fun hn=>h2 ?_
 ·unfold En;refine Is.inb hi (Is.at ho ?_);exact Is.ite Km (fun hp=>Is.val (h1 (dH.2 ⟨o,aC ho,decide_eq_true hp⟩))) fun hp=>Is.val ⟨rfl,hp⟩
 ·rw [List.any_eq_false];intro o ho;rw [decide_eq_true_iff];exact Va.1 hn o ho
theorem Kfz(L:List Int)(y:Int)(h:L.length<=1048576):Jcz L y=some (decide (y∈L)):=Jec L y h
theorem Jv5(hf:Ji9 k)(hr:RtT l x)(hi:0<=i/\i<(t.Routes.length:Nat))(hg:t.Routes[i.toNat]? = some x)(hc:k.CutSeq=0)(he:k.End ≠ -1)(hE:k.End=x.Entry){z:Int}(hz:x.Sections[x.Sections.length - 1]? = some z) :
  Bz l t k i=some (Jjp l k x z i):=by
 have g1:=hf.steps; have g2:=hf.routes; have g3:=hf.starts; have g4:=hf.ends; have g5:=hf.done; have hp:=hr.path; have hsl:=hr.secs; have hsn:=hr.sn;have:Is (Bz l t k i) fun o=>o=Jjp l k x z i:=by
  unfold Bz;refine Is.bind (φ:=fun b=>b=false) ?_ fun b hb=>?_
  ·rw [decide_eq_false oG,cond_false];exact Is.val (decide_eq_false oG)
  subst hb;rw [cond_false];refine Is.bind (Is.ix hi.1 hi.2) fun y hy=>?_;rw [hg] at hy; cases hy;rw [decide_eq_true hc];simp only [aX,cond_false];rw [decide_eq_false he,decide_eq_true hE];simp only [aX,fC,cond_false];refine Is.onInl (θ:=fun o=>(o=.inr (tr0,8)/\Jp8 k x=true)\/(o=.inl (Jfh l z x.Path)/\Jp8 k x=false)) ?_ (fun v hv=>?_) (fun b hb=>?_)
  ·refine Is.loop (mk:=fun i (a:Int)=>(a,(i:Int))) x.Path.length (fun i a=>a=Jfh l z (x.Path.take i)/\((x.Path.take i).any fun s=>k.Steps.any fun o=>decide (o.El=s.El))=false) 0 ⟨rfl,rfl⟩ (fun j a hj hI=>?_) (fun a hI=>?_)
   ·obtain ⟨hb,hd⟩:=hI;have hs:=aB hj;generalize x.Path[j]=s at hs;unfold Mc;dsimp only;rw [decide_eq_true oG,cond_true];refine Is.onInl (θ:=fun o=>(o=.inr (.inr (.inr (tr0,8)))/\(k.Steps.any fun o=>decide (o.El=s.El))=true)\/(o=.inl (Jfh l z (x.Path.take (j+1)))/\(k.Steps.any fun o=>decide (o.El=s.El))=false)) (Is.at hs ?_) (fun v hv=>?_) (fun b hb=>?_)
    ·refine Kdu (β:=Unit) g1 s (fun hh=>.inl ⟨rfl,hh⟩) (fun hh=>?_) rfl;rw [Df,aA,Qt oG oG,show ((x.Sections.length:Nat):Int) - 1=((x.Sections.length - 1:Nat):Int) by omega];refine Is.at hz ?_;rw [Qw hs,Jqx,<- hb];refine Is.ite Km (fun hc=>?_) fun hc=>Is.val (.inr ⟨by rw [if_neg hc],hh⟩);have hel:=hr.el s (aC hs);obtain ⟨e,e1,e2⟩:=Vj hel;rw [e1,aA,if_pos hc];exact Is.val (.inr ⟨by rw [show lenOf l s=e.Length by simp [lenOf,hel,e2]],hh⟩)
    ·rcases hv with ⟨e,_⟩|⟨e,hh⟩
     ·cases e
     ·cases e;exact Is.val ⟨_,by rw [Zi oG],rfl,by rw [Keu hs,hd,hh]; rfl⟩
    ·rcases hb with ⟨e,hh⟩|⟨e,_⟩
     ·cases e;exact .inl ⟨rfl,dH.2 ⟨s,aC hs,hh⟩⟩
     ·cases e
   ·obtain ⟨hb,hd⟩:=hI;unfold Mc;dsimp only;rw [decide_eq_false oG,cond_false];rw [aR] at hb hd;exact Is.val (.inr ⟨by rw [hb],hd⟩)
  ·rcases hv with ⟨e,_⟩|⟨e,hd⟩
   ·cases e
   cases e;rw [Kfz _ _ oG,aA];unfold Jjp;refine Is.ite Km (fun hm=>Is.val (by rw [if_pos (.inr hm)]; rfl)) fun hm=>?_;rw [if_neg (by rw [hd]; exact fun q=>q.elim (fun q=>by cases q) hm)];refine Is.ite (p:=Jnf k x) (by unfold Jnf; rw [bP,decide_eq_true_iff,decide_eq_true_iff]) (fun hL=>Is.val (by rw [if_pos hL]; rfl)) fun hL=>?_;rw [if_neg hL];rw [Gv (by simp only [Js,Enc.b]; omega),Gv (by simp only [Js,Enc.b]; omega),Gv (by simp only [Js,Enc.b]; omega),Gv (by simp only [Js,Enc.b]; omega),Gv (by simp only [Js,Enc.b]; omega)];simp only [aA];refine Is.bind (Is.app (by simp only [Js,Enc.b]; omega)) fun x73 e73=>Is.bind (Is.app (by simp only [aE,aF,Js,Enc.b]; omega)) fun x74 e74=>?_;refine Is.bind (Is.app (by simp only [aE,aF,Js,Enc.b]; omega)) fun x75 e75=>Is.bind (Is.app (by simp only [aE,aF,Js,Enc.b]; omega)) fun x76 e76=>?_;exact Is.val (by rw [e73,e74,e75,e76]; rfl)
  ·rcases hb with ⟨e,hd⟩|⟨e,_⟩
   ·cases e;unfold Jjp;rw [if_pos (.inl hd)]
   ·cases e
 obtain ⟨r,e,rfl⟩:=this;exact e
end
def Jc5(t:Jq)(T:List Je):Nat:=((List.range t.Routes.length).filter fun (r:Nat)=> !(T.any fun k=>decide ((r:Int)∈k.Routes))).length
theorem Jw3(t:Jq)(T:List Je):Jc5 t T<=t.Routes.length:=by
 unfold Jc5;exact bG (bZ _ _) (by rw [List.length_range]; exact aJ _)
theorem Kf8{t:Jq}{T:List Je}{i:Nat}{k k':Je}{r:Int}(hk:T[i]? = some k)(hr:k'.Routes=k.Routes++[r])(h0:0<=r/\r<(t.Routes.length:Nat))(hn:∀ k∈T,r∉k.Routes):Jc5 t (T.set i k')<Jc5 t T:=by
 unfold Jc5;have hsub:∀ q:Nat,(T.any fun k=>decide ((q:Int)∈k.Routes))=true->((T.set i k').any fun k=>decide ((q:Int)∈k.Routes))=true:=fun q hq=>by
  obtain ⟨y,hy,hm⟩:=dH.1 hq;have hm:=of_decide_eq_true hm;obtain ⟨j,hj⟩:=aS hy
  by_cases e:j=i
  ·subst e;rw [hk] at hj; cases hj;exact dH.2 ⟨k',aC (dM (Qs hk)),decide_eq_true (by rw [hr]; exact eV _ hm)⟩
  ·exact dH.2 ⟨y,aC ((cQ (fun q=>e q.symm)).trans hj),decide_eq_true hm⟩
 have e:((List.range t.Routes.length).filter fun (q:Nat)=> !((T.set i k').any fun k=>decide ((q:Int)∈k.Routes)))=(((List.range t.Routes.length).filter fun (q:Nat)=> !(T.any fun k=>decide ((q:Int)∈k.Routes))).filter fun (q:Nat)=> !((T.set i k').any fun k=>decide ((q:Int)∈k.Routes))):=by
  rw [List.filter_filter];refine List.filter_congr fun q _=>?_;cases hc:(T.any fun k=>decide ((q:Int)∈k.Routes)) with
  | true=>rw [hsub q hc]; rfl
  | false=>simp
 rw [e,List.length_filter_lt_length_iff_exists];refine ⟨r.toNat,List.mem_filter.2 ⟨List.mem_range.2 oG, ?_⟩, ?_⟩
 ·have hrr:((r.toNat:Nat):Int)=r:=by omega
  rw [hrr,bL,List.any_eq_false];intro y hy;rw [decide_eq_true_iff];exact hn y hy
 ·have hrr:((r.toNat:Nat):Int)=r:=by omega
  rw [hrr];have:((T.set i k').any fun k=>decide (r∈k.Routes))=true:=dH.2 ⟨k',aC (dM (Qs hk)),decide_eq_true (by rw [hr]; simp)⟩;rw [this]; simp
structure TrX (t:Jq) (T:List Je) (k:Je):Prop where
 steps:k.Steps.length<=100
 starts:k.Starts.length=k.Routes.length
 ends:k.Ends.length=k.Routes.length
 done:k.Done.length<=60
 rts:k.Routes.length+Jc5 t T<=110
 origin:-1073741824<=k.Origin/\k.Origin<=1073741824
theorem TrX.few{t:Jq}{T:List Je}{k:Je}(h:TrX t T k):Ji9 k:=by
 have h1:=h.steps; have h2:=h.starts; have h3:=h.ends; have h4:=h.done; have h5:=h.rts;exact ⟨by omega,by omega,by omega,by omega,by omega⟩
noncomputable def Jd8(l:Ja)(t:Jq)(s:Jx)(i:Nat)(T:List Je):Option (List Je) :=
 match T[i]? with
 | none=>none
 | some k=>if k.CutSeq≠0\/k.End = -1 then none else
  match Fa t s T k.End with
  | none=>none
  | some r=>if r<0 then none else match Yk l t k r with
   | none=>none
   | some o=>if o.2=0 then some (T.set i o.1) else none
noncomputable def Jd4(l:Ja)(t:Jq)(s:Jx)(i:Nat):Nat->List Je->List Je
 | 0,T=>T
 | n+1,T=>match Jd8 l t s i T with
  | none=>T
  | some T'=>Jd4 l t s i n T'
section
variable {l:Ja} {t:Jq} {s:Jx}
theorem Jd3{i n:Nat}{T:List Je}(h:Jd8 l t s i T=none):Jd4 l t s i n T=T:=by
 cases n with
 | zero=>rfl
 | succ n=>unfold Jd4; rw [h]
theorem Jk2(hO:OkL l)(hn:t.Routes.length<=50)(hR:∀ x∈t.Routes,RtT l x){T:List Je}(hT:T.length<=1000)(hX:∀ k∈T,TrX t T k){i:Nat}{k:Je}(hk:T[i]? = some k) :
  ∃ r,Fa t s T k.End=some r/\Fo t s T k=some r /\
   ((Jd8 l t s i T=none/\(k.CutSeq≠0\/k.End = -1\/r<0)) \/
    (¬ (k.CutSeq≠0\/k.End = -1\/r<0)/\∃ o,Yk l t k r=some o/\Bz l t k r=some o /\
     ((o.2≠0/\Jd8 l t s i T=none)\/(o.2=0/\Jd8 l t s i T=some (T.set i o.1)/\Jc5 t (T.set i o.1)<Jc5 t T/\∀ y∈T.set i o.1,TrX t (T.set i o.1) y)))):=by
 have hf:∀ k∈T,Ji9 k:=fun k hk=>(hX k hk).few;obtain ⟨r,e1,e2,h⟩:=Kck (t:=t) (s:=s) oG hT hf k;refine ⟨r,e1,e2, ?_⟩
 by_cases hc:k.CutSeq≠0\/k.End = -1
 ·exact .inl ⟨by unfold Jd8; rw [hk]; dsimp only; rw [if_pos hc],hc.elim .inl fun q=>.inr (.inl q)⟩
 by_cases hr:r<0
 ·exact .inl ⟨by unfold Jd8; rw [hk]; dsimp only; rw [if_neg hc,e1]; dsimp only; rw [if_pos hr],.inr (.inr hr)⟩
 have hR0:Ey t s T k.End r:=h.resolve_left fun q=>by omega
 have hc1:k.CutSeq=0:=dE fun q=>hc (.inl q);have hc2:k.End ≠ -1:=fun q=>hc (.inr q);obtain ⟨r0,r1,r2,⟨x,hx,hxe⟩,_,hnew⟩:=hR0;have hxr:=hR x (aC hx);obtain ⟨z,hz⟩:∃ z,x.Sections[x.Sections.length - 1]? = some z:=⟨_,aB (by have:=hxr.sn; omega)⟩
 have hfk:=hf k (aC hk);have q1:=Kb3 (l:=l) (t:=t) hO hfk hxr ⟨r0,r1⟩ hx hc1 hc2 hxe.symm hz;have q2:=Jv5 (l:=l) (t:=t) hfk hxr ⟨r0,r1⟩ hx hc1 hc2 hxe.symm hz;refine .inr ⟨fun q=>q.elim (fun a=>a hc1) fun q=>q.elim hc2 hr,_,q1,q2, ?_⟩;have hst:Jd8 l t s i T=if (Jjp l k x z r).2=0 then some (T.set i (Jjp l k x z r).1) else none:=by
  unfold Jd8; rw [hk]; dsimp only; rw [if_neg hc,e1]; dsimp only; rw [if_neg hr,q1]
 by_cases h0:(Jjp l k x z r).2=0
 ·refine .inr ⟨h0,by rw [hst,if_pos h0], ?_⟩;have hd:¬ (Jp8 k x=true\/r∈k.Routes):=fun q=>by unfold Jjp at h0; rw [if_pos q] at h0; cases h0
  have hL:¬ Jnf k x:=fun q=>by unfold Jjp at h0; rw [if_neg hd,if_pos q] at h0; cases h0
  have hE:(Jjp l k x z r).1=Kk9 l k x z r:=by unfold Jjp; rw [if_neg hd,if_neg hL]
  rw [hE];have hlt:=Kf8 (t:=t) (k':=Kk9 l k x z r) hk rfl ⟨r0,r1⟩ hnew;refine ⟨hlt,fun y hy=>?_⟩;rcases eD hy with hy|rfl
  ·have q:=hX y hy;exact ⟨q.steps,q.starts,q.ends,q.done,by have:=q.rts; omega,q.origin⟩
  ·have q:=hX k (aC hk);have a1:=q.steps; have a2:=q.starts; have a3:=q.ends; have a5:=q.rts; have a6:=hxr.path;unfold Jnf at hL;rw [Qt oG oG] at hL;exact ⟨by show (k.Steps++x.Path).length<=100; rw [aH]; omega,by show (k.Starts++[_]).length=(k.Routes++[r]).length; rw [aH,aH,a2]; rfl,by show (k.Ends++[_]).length=(k.Routes++[r]).length; rw [aH,aH,a3]; rfl,q.done,by show (k.Routes++[r]).length+_<=110; rw [aH,cC]; omega,q.origin⟩
 ·exact .inl ⟨h0,by rw [hst,if_neg h0]⟩
theorem Jym(hO:OkL l)(hn:t.Routes.length<=50)(hR:∀ x∈t.Routes,RtT l x){i:Nat}:∀ (n:Nat) {T:List Je},T.length<=1000->i<T.length->(∀ k∈T,TrX t T k)->(Jd4 l t s i n T).length=T.length/\∀ k∈Jd4 l t s i n T,TrX t (Jd4 l t s i n T) k:=by
 intro n;induction n with
 | zero=>intro T h1 _ h2; exact ⟨rfl,h2⟩
 | succ n ih=>
  intro T h1 hi h2;have hk:=aB hi;obtain ⟨r,_,_,h⟩:=Jk2 (s:=s) hO hn hR h1 h2 hk;unfold Jd4;rcases h with ⟨e,_⟩|⟨_,o,_,_,⟨_,e⟩|⟨_,e,_,hX⟩⟩
  ·rw [e]; exact ⟨rfl,h2⟩
  ·rw [e]; exact ⟨rfl,h2⟩
  ·rw [e];dsimp only;obtain ⟨a1,a2⟩:=ih (T:=T.set i o.1) (by rw [cG]; exact h1) (by rw [cG]; exact hi) hX;exact ⟨by rw [a1,cG],a2⟩
theorem Kcr(hO:OkL l)(hn:t.Routes.length<=50)(hR:∀ x∈t.Routes,RtT l x){T0:List Je}(hT:T0.length<=1000)(hX:∀ k∈T0,TrX t T0 k){i:Nat}(hi:i<T0.length) :
  Is (Jp (Xh l t s T0.length (i:Int)) T0) fun o=>o=.inl (Jd4 l t s i t.Routes.length T0)\/o=.inr (Jd4 l t s i t.Routes.length T0):=by
 refine Is.wf (I:=fun T=>T.length=T0.length/\(∀ k∈T,TrX t T k)/\∃ m,Jc5 t T<=m/\Jd4 l t s i m T=Jd4 l t s i t.Routes.length T0) (μ:=Jc5 t) (fun T hI=>?_) (Jc5 t T0) T0 (aJ _) ⟨rfl,hX,_,Jw3 t T0,rfl⟩;obtain ⟨hlen,hX,m,hm,hE⟩:=hI;have hxi:Wd 0 T0.length ((i:Nat):Int)=some i:=by rw [Jzh 0 hi,aW]
 have hk:=aB (show i<T.length by omega);generalize T[i]'(by omega)=k at hk;have hld:Vd T T0.length i=some k:=by rw [Jur hlen]; exact hk
 obtain ⟨r,e1,_,h⟩:=Jk2 (s:=s) hO hn hR oG hX hk;unfold Xh;simp only [hxi,hld,aA];refine Is.bind (φ:=fun b=>b=true↔(k.CutSeq=0/\k.End ≠ -1)) (Is.and Km fun _=>Is.val (by rw [bL,decide_eq_false_iff_not])) fun b hb=>?_;refine Is.ite hb (fun hp=>?_) fun hp=>?_
 ·rw [e1,aA];refine Is.ite Km (fun hr=>?_) fun hr=>?_
  ·have:Jd8 l t s i T=none:=by
    rcases h with ⟨e,_⟩|⟨q,_⟩
    ·exact e
    ·exact absurd (.inr (.inr hr)) q
   exact Is.val (.inr (by rw [<- hE,Jd3 this]))
  ·rcases h with ⟨_,q|q|q⟩|⟨_,o,e3,_,h⟩
   ·exact absurd hp.1 q
   ·exact absurd q hp.2
   ·exact absurd q hr
   rw [e3,aA];rcases h with ⟨h0,e⟩|⟨h0,e,hlt,hX'⟩
   ·rw [decide_eq_false h0];exact Is.val (.inr (by rw [<- hE,Jd3 e]))
   ·rw [decide_eq_true h0];refine Is.val ⟨⟨by rw [cG]; exact hlen,hX', ?_⟩,hlt⟩;cases m with
    | zero=>omega
    | succ m=>
     refine ⟨m,by omega, ?_⟩;rw [<- hE]
     conv=>rhs; unfold Jd4
     rw [e]
 ·have:Jd8 l t s i T=none:=by
   unfold Jd8;rw [hk]; dsimp only;rw [if_pos (dE fun q=>hp ⟨dE fun a=>q (.inl a),fun a=>q (.inr a)⟩)]
  exact Is.val (.inl (by rw [<- hE,Jd3 this]))
theorem Kir(hO:OkL l)(hn:t.Routes.length<=50)(hR:∀ x∈t.Routes,RtT l x){T0:List Je}{S:List Jl}(hT:T0.length<=1000)(hS:S.length=T0.length)(hX:∀ k∈T0,TrX t T0 k){i:Nat}(hi:i<T0.length) :
  Bw l t s ⟨T0,S⟩ (i:Int)=some ⟨Jd4 l t s i t.Routes.length T0,S⟩:=by
 have:Is (Bw l t s ⟨T0,S⟩ (i:Int)) fun r=>r=⟨Jd4 l t s i t.Routes.length T0,S⟩:=by
  unfold Bw;refine Is.onInl (θ:=fun o=>o=.inl (Jd4 l t s i t.Routes.length T0,S)\/o=.inr ⟨Jd4 l t s i t.Routes.length T0,S⟩) ?_ (fun v hv=>?_) (fun b hb=>?_)
  ·refine Is.loop (mk:=fun j (T:List Je)=>((j:Int),(⟨T,S⟩:Jm))) t.Routes.length (fun j T=>T.length=T0.length/\(∀ k∈T,TrX t T k)/\Jd4 l t s i (t.Routes.length - j) T=Jd4 l t s i t.Routes.length T0) T0 ⟨rfl,hX,rfl⟩ (fun j T hj hI=>?_) (fun T hI=>?_)
   ·obtain ⟨hlen,hX,hE⟩:=hI;have hk:=aB (show i<T.length by omega);generalize T[i]'(by omega)=k at hk;have hse:=aB (show i<S.length by omega);generalize S[i]'(by omega)=se at hse;obtain ⟨r,_,e2,h⟩:=Jk2 (s:=s) hO hn hR oG hX hk;unfold Fc;dsimp only;rw [decide_eq_true oG,cond_true];refine Is.at hk ?_;rw [e2,aA];refine Is.ite (p:=k.CutSeq≠0\/k.End = -1\/r<0) (by simp only [bP,bL,decide_eq_true_eq,decide_eq_false_iff_not]; rw [or_assoc]) (fun hp=>?_) fun hp=>?_
    ·have:Jd8 l t s i T=none:=by
      rcases h with ⟨e,_⟩|⟨q,_⟩
      ·exact e
      ·exact absurd hp q
     exact Is.val (.inr (by rw [<- hE,Jd3 this]))
    ·rcases h with ⟨_,q⟩|⟨_,o,_,e3,h⟩
     ·exact absurd q hp
     rw [e3,aA];rcases h with ⟨h0,e⟩|⟨h0,e,hlt,hX'⟩
     ·rw [decide_eq_false h0];exact Is.val (.inr (by rw [<- hE,Jd3 e]))
     ·rw [decide_eq_true h0];simp only [aX,cond_false];refine Is.at hse ?_;rw [Jnv (c:=⟨T,S⟩) (by show T.length<=1000; omega) (by show S.length<=1000; omega) (by show i<T.length; omega) (by show i<S.length; omega),aA];refine Is.val ⟨T.set i o.1,by rw [Zi oG,Jx7 hse],by rw [cG]; exact hlen,hX', ?_⟩;rw [<- hE,show t.Routes.length - j=(t.Routes.length - (j+1))+1 by omega]
      conv=>rhs; unfold Jd4
      rw [e]
   ·obtain ⟨hlen,hX,hE⟩:=hI;unfold Fc;dsimp only;rw [decide_eq_false oG,cond_false];rw [fD] at hE;exact Is.val (.inl (by rw [<- hE]; rfl))
  ·rcases hv with e|e
   ·cases e; exact Is.val rfl
   ·cases e
  ·rcases hb with e|e
   ·cases e
   ·cases e; rfl
 obtain ⟨r,e,rfl⟩:=this;exact e
end
def Jm0(l:Ja)(c:Int):Int->List Jb->List Jb
 | _,[]=>[]
 | a,s::r=>(if a<c then [s] else [])++Jm0 l c (a+lenOf l s) r
def Jbt(l:Ja)(c:Int):Int->List Jb->List Jb
 | _,[]=>[]
 | a,s::r=>if a<c then s::Jbt l c (a+lenOf l s) r else []
theorem Jz3(l:Ja)(c a:Int)(s:Jb)(r:List Jb):Jbt l c a (s::r)=if a<c then s::Jbt l c (a+lenOf l s) r else []:=rfl
section
variable {l:Ja}
theorem Jsn(hO:OkL l){c:Int}:∀ {L:List Jb} {a:Int},c<=a->Jm0 l c a L=[]
 | [],_,_=>rfl
 | s::r,a,h=>by
  unfold Jm0;rw [if_neg oG,Jsn hO (by have:=Jg2 hO s; omega)]; rfl
theorem Jn4(hO:OkL l){c:Int}:∀ {L:List Jb} {a:Int},Jm0 l c a L=Jbt l c a L
 | [],_=>rfl
 | s::r,a=>by
  unfold Jm0 Jbt
  by_cases h:a<c
  ·rw [if_pos h,if_pos h,Jn4 hO]; rfl
  ·rw [if_neg h,if_neg h,Jsn hO (by have:=Jg2 hO s; omega)]; rfl
theorem Jfu(hO:OkL l):∀ (L:List Jb),0<=Uf l L/\Uf l L<=1000000 * (L.length:Nat)
 | []=>⟨Int.le_refl _,by simp [Uf]⟩
 | s::r=>by
  have h1:=Jfu hO r;have h2:=Jg2 hO s;have h3:lenOf l s<=1000000:=by
   by_cases h:Um l s.El=true
   ·have:=hO.lens h; omega
   ·unfold lenOf; rw [Bool.not_eq_true] at h; rw [h]; simp
  simp only [Uf,aE];omega
theorem Js1{c:Int}:∀ {L:List Jb} {a:Int},(Jbt l c a L).length<=L.length
 | [],_=>aJ _
 | s::r,a=>by
  unfold Jbt;split
  ·simp only [aE]; have:=Js1 (c:=c) (L:=r) (a:=a+lenOf l s); omega
  ·simp
end
section
variable {l:Ja} {t:Jq} {k:Je}
def Jub(k:Je):Prop:=∃ e∈k.Ends,k.Cut<e
theorem Jtm(hO:OkL l)(hs:k.Steps.length<=100)(he:k.Ends.length<=1000)(ho:-1073741824<=k.Origin/\k.Origin<=1073741824) :
  Is (Fu l k) fun w=>(¬ Jub k/\w=k)\/(Jub k/\w=Je.mk k.Id k.Origin k.End k.Cut (Jbt l k.Cut k.Origin k.Steps) k.Routes k.Starts k.Ends k.Done k.Min k.Sent k.Accepted k.Cut k.CutSeq):=by
 unfold Fu;refine Is.bind (φ:=fun b=>b=true↔Jub k) ?_ fun b hb=>?_
 ·unfold Ud Uq;refine Is.bind (φ:=fun q=>0<=q↔Jub k) ?_ fun q hq=>Is.val (by rw [decide_eq_true_iff,hq]);refine Is.all (L:=k.Ends) (fun _ e=>¬ k.Cut<e) () oG (fun i x hx hi _=>?_) (by simp [Ug]) fun hn=>Is.val (iff_of_false oG fun ⟨e,he,hc⟩=>?_)
  ·unfold Ug Fq;refine Is.inb hi (Is.at hx ?_);rw [aA];exact Is.ite Km (fun hp=>Is.val (iff_of_true oG ⟨x,aC hx,hp⟩)) fun hp=>Is.val ⟨rfl,hp⟩
  ·obtain ⟨i,hi⟩:=aS he;exact hn i e hi hc
 refine Is.ifn hb (fun hp=>Is.val (.inl ⟨hp,rfl⟩)) fun hp=>?_;refine Is.onInl (θ:=fun o=>o=.inl (Jbt l k.Cut k.Origin k.Steps)) ?_ (fun v hv=>by cases hv; exact Is.val (.inr ⟨hp,rfl⟩)) (fun b hb=>by cases hb);refine Is.loop (mk:=fun i (s:Int×List Jb)=>(s.1,(i:Int),s.2)) k.Steps.length (fun i s=>s.1=k.Origin+Uf l (k.Steps.take i)/\s.2.length<=i/\s.2++Jm0 l k.Cut s.1 (k.Steps.drop i)=Jbt l k.Cut k.Origin k.Steps) (k.Origin,[]) ⟨by simp [Uf],aJ _,by simp [Jn4 hO]⟩ (fun i s hi hI=>?_) (fun s hI=>?_)
 ·obtain ⟨a,M⟩:=s;obtain ⟨h1,h2,h3⟩:=hI;simp only at h1 h2 h3;have hx:=aB hi;have hdrop:=dD hi;generalize k.Steps[i]=x at hx hdrop;have hsum:=Jfu hO (k.Steps.take i);have hlt:(k.Steps.take i).length<=100:=by rw [aT]; omega
  have hl0:=Jg2 hO x;have hsum2:=Jfu hO [x];simp only [Uf,aE,aF] at hsum2;have hsx:Uf l (k.Steps.take (i+1))=Uf l (k.Steps.take i)+lenOf l x:=by rw [Qw hx,Yl]; simp [Uf]
  rw [hdrop] at h3;unfold Jm0 at h3;simp only [Hp];rw [decide_eq_true oG,cond_true];refine Is.onInl (θ:=fun o=>∃ M',o=.inl (M',a+lenOf l x)/\M'=M++(if a<k.Cut then [x] else [])) (Is.at hx ?_) (fun v hv=>?_) (fun b hb=>by obtain ⟨_,e,_⟩:=hb; cases e)
  ·refine Is.onInl (θ:=fun o=>o=.inl (M++(if a<k.Cut then [x] else []))) ?_ (fun v hv=>?_) (fun b hb=>by cases hb)
   ·refine Is.ite Km (fun hc=>?_) fun hc=>Is.val (by rw [if_neg hc,bE]);exact (Is.app (by simp only [aE,aF,Js,Enc.b]; omega)).bind fun M' hM'=>Is.val (by rw [hM',if_pos hc])
   ·cases hv;refine Is.bind (φ:=fun b=>b=true↔Um l x.El=true) ((Is.and Km fun _=>Is.val Km).iff (by unfold Um; rw [aI,decide_eq_true_iff,decide_eq_true_iff])) fun b hb=>?_;refine Is.ite hb (fun hp=>?_) fun hp=>Is.val ⟨_,by rw [show lenOf l x=0 by unfold lenOf; rw [Bool.not_eq_true] at hp; rw [hp]; rfl,eG],rfl⟩;obtain ⟨e,e1,e2⟩:=Vj hp;have hle:lenOf l x=e.Length:=by simp [lenOf,hp,e2]
    rw [e1,aA];exact Is.val ⟨_,by rw [<- hle,Qt oG oG],rfl⟩
  ·obtain ⟨M',e,hM'⟩:=hv;cases e;refine Is.val ⟨(a+lenOf l x,M'),by rw [Zi oG],by show a+lenOf l x=_; rw [hsx,h1]; omega, ?_, ?_⟩
   ·show M'.length<=i+1;rw [hM',aH];split <;> simp <;> omega
   ·show M'++_=_;rw [hM',bC]; exact h3
 ·obtain ⟨a,M⟩:=s;obtain ⟨h1,h2,h3⟩:=hI;simp only [List.drop_length,Jm0,bE] at h3;simp only [Hp];rw [decide_eq_false oG,cond_false];exact Is.val (by rw [h3])
theorem Kf9(hO:OkL l)(hs:k.Steps.length<=100)(he:k.Ends.length=k.Routes.length)(hr:k.Routes.length<=1000)(ho:-1073741824<=k.Origin/\k.Origin<=1073741824) :
  Is (Jaa l t k) fun w=>w.Sent=k.Sent/\w.Origin=k.Origin/\((¬ Jub k/\w.Steps=k.Steps/\w.At=k.At)\/(Jub k/\w.Steps=Jbt l k.Cut k.Origin k.Steps/\w.At=k.Cut)):=by
 unfold Jaa;refine Is.onInl (θ:=fun o=>∃ n:Nat,o=.inl (n:Int)/\((n=k.Routes.length/\¬ Jub k)\/(n<k.Routes.length/\Jub k))) ?_ (fun v hv=>?_) (fun b hb=>by obtain ⟨_,e,_⟩:=hb; cases e)
 ·refine Is.loop (mk:=fun i (_:Unit)=>(i:Int)) k.Routes.length (fun i _=>∀ e∈k.Ends.take i,¬ k.Cut<e) () (fun e h=>by simp at h) (fun i _ hi hI=>?_) (fun _ hI=>?_)
  ·have hx:=aB (show i<k.Ends.length by omega);generalize k.Ends[i]'(by omega)=e at hx;unfold Tl;rw [decide_eq_true oG,cond_true,aA,decide_eq_true oG,cond_true];refine Is.bind (φ:=fun b=>b=true↔e<=k.Cut) (Is.at hx (Is.val Km)) fun b hb=>?_;refine Is.ite hb (fun hp=>Is.val ⟨(),by rw [Zi oG],fun y hy=>?_⟩) fun hp=>Is.val ⟨i,rfl,.inr ⟨hi,e,aC hx,by omega⟩⟩;rw [Qw hx,aY,cA] at hy;rcases hy with hy|rfl
   ·exact hI y hy
   ·omega
  ·unfold Tl;rw [decide_eq_false oG,cond_false,aA,cond_false,aA,cond_false];exact Is.val ⟨_,rfl,.inl ⟨rfl,fun ⟨e,h1,h2⟩=>hI e (by rw [<- he,aR]; exact h1) h2⟩⟩
 ·obtain ⟨n,e,h⟩:=hv;cases e;refine Is.bind (φ:=fun b=>b=true↔¬ Jub k) ?_ fun b hb=>?_
  ·rcases h with ⟨h1,h2⟩|⟨h1,h2⟩
   ·rw [decide_eq_true oG,cond_true];exact Is.val (iff_of_true rfl h2)
   ·rw [decide_eq_false oG,cond_false];exact Is.val (iff_of_false (by rw [decide_eq_true_iff]; omega) fun q=>q h2)
  refine Is.ite hb (fun hp=>Is.val ⟨rfl,rfl,.inl ⟨hp,rfl,rfl⟩⟩) fun hp=>?_;have hp:=dE hp;have hn:n<k.Routes.length:=by
   rcases h with ⟨_,h2⟩|⟨h1,_⟩
   ·exact absurd hp h2
   ·exact h1
  refine Is.onInl (θ:=fun o=>∃ v,o=.inl v) ?_ (fun v hv=>?_) (fun b hb=>by obtain ⟨_,e⟩:=hb; cases e)
  ·refine (Is.ixn hn).bind fun r _=>?_;refine Is.bind (Is.and Km fun _=>Is.val Km) fun b hb=>Is.ite hb (fun q=>?_) fun _=>Is.val ⟨_,rfl⟩;exact (Is.ix q.1 q.2).bind fun y _=>Is.val ⟨_,rfl⟩
  ·rw [Jyv oG,aA];refine Is.onInl (θ:=fun o=>o=.inl (Jbt l k.Cut k.Origin k.Steps)) ?_ (fun v hv=>by cases hv; exact Is.val ⟨rfl,rfl,.inr ⟨hp,rfl,rfl⟩⟩) (fun b hb=>by cases hb);refine Is.loop (mk:=fun i (s:Int×List Jb)=>(s.1,(i:Int),s.2)) k.Steps.length (fun i s=>s.1=k.Origin+Uf l (k.Steps.take i)/\s.2.length<=i/\s.2++Jbt l k.Cut s.1 (k.Steps.drop i)=Jbt l k.Cut k.Origin k.Steps) (k.Origin,[]) ⟨by simp [Uf],aJ _,rfl⟩ (fun i s hi hI=>?_) (fun s hI=>?_)
   ·obtain ⟨a,M⟩:=s;obtain ⟨h1,h2,h3⟩:=hI;simp only at h1 h2 h3;have hx:=aB hi;have hdrop:=dD hi;generalize k.Steps[i]=x at hx hdrop;have hsum:=Jfu hO (k.Steps.take i);have hlt:(k.Steps.take i).length<=100:=by rw [aT]; omega
    have hl0:=Jg2 hO x;have hsum2:=Jfu hO [x];simp only [Uf,aE,aF] at hsum2;have hsx:Uf l (k.Steps.take (i+1))=Uf l (k.Steps.take i)+lenOf l x:=by rw [Qw hx,Yl]; simp [Uf]
    rw [hdrop,Jz3] at h3;simp only [Xg];rw [decide_eq_true (show ((i:Nat):Int)<((k.Steps.length:Nat):Int) by omega),eZ];refine Is.ite Km (fun hc=>?_) fun hc=>Is.val ?_
    ·rw [if_pos hc] at h3;refine Is.at hx ?_;refine (Is.app (by simp only [aE,aF,Js,Enc.b]; omega)).bind fun M' hM'=>?_;rw [Zi oG,Kfh oG oG,aA,show (k.Steps.take (i+1)).drop i=[x] by
      rw [Qw hx,List.drop_left' (by rw [aT]; omega)],Jao l _ sG,aA,show Uf l [x]=lenOf l x by simp [Uf],Qt (n:=lenOf l x) oG oG,Qt oG oG]
     refine Is.val ⟨(a+lenOf l x,M'),rfl,by show a+lenOf l x=_; rw [hsx,h1]; omega,by show M'.length<=i+1; rw [hM',aH,cC]; omega, ?_⟩;show M'++_=_;rw [hM',bC]; exact h3
    ·rw [if_neg hc,bE] at h3;rw [h3]
   ·obtain ⟨a,M⟩:=s;obtain ⟨h1,h2,h3⟩:=hI;simp only [List.drop_length,Jbt,bE] at h3;simp only [Xg];rw [decide_eq_false oG,fE,cond_false];exact Is.val (by rw [h3])
def Jmh(k:Je):Je:=Je.mk k.Id k.Origin k.End k.At k.Steps k.Routes k.Starts k.Ends k.Done k.Min (w64 (k.Sent+1)) k.Accepted k.Cut k.CutSeq
theorem Jzl{k k':Je}(h1:k'.Steps=k.Steps)(h2:k'.Origin=k.Origin)(h3:k'.At=k.At)(list:List Jj)(seq:Int):Yy l k' list seq=Yy l k list seq:=by
 unfold Yy;rw [h1,h2,h3]
theorem Jy5(h:Sm l)(hO:OkL l)(hs:k.Steps.length<=100)(he:k.Ends.length=k.Routes.length)(hr:k.Routes.length<=1000)(ho:-1073741824<=k.Origin/\k.Origin<=1073741824){list:List Jj}(hl:list.length<=1048576) :
  ∃ m b,Jaf l list k=some (if b=true then Jmh k else k,m)/\Fw l t list k=some (m,b)/\m.Auth.Profile.length<=128/\m.Auth.Links.length<=24:=by
 have key:∀ (kd:Int) (w w':Je),w.Steps.length<=100->(-1073741824<=w.Origin/\w.Origin<=1073741824)->w'.Steps=w.Steps->w'.Origin=w.Origin->w'.At=w.At->∀ seq:Int,
   ∃ m b,((Zr l w list seq).bind fun r18=>bif (!(decide (r18.2=0))) then some (k,(Jn.mk 5 0 0 0 0 (Ka.mk 0 0 [] []) (Uw.mk 0 0 0 0 false))) else some (Jmh k,(Jn.mk kd 0 0 0 0 r18.1 (Uw.mk 0 0 0 0 false))))=some (if b=true then Jmh k else k,m) /\
    ((Yy l w' list seq).bind fun r18=>bif (!(decide (r18.2=0))) then some ((Jn.mk 5 0 0 0 0 (Ka.mk 0 0 [] []) (Uw.mk 0 0 0 0 false)),false) else some ((Jn.mk kd 0 0 0 0 r18.1 (Uw.mk 0 0 0 0 false)),true))=some (m,b)/\m.Auth.Profile.length<=128/\m.Auth.Links.length<=24:=by
  intro kd w w' h1 h2 h3 h4 h5 seq;obtain ⟨r,e1,e2,q1,q2,_⟩:=Kdt h hO h1 h2 hl seq;rw [Jzl h3 h4 h5,e1,e2];simp only [aA];cases hd:decide (r.2=0) with
  | true=>exact ⟨_,true,rfl,rfl,q1,q2⟩
  | false=>exact ⟨_,false,rfl,rfl,by simp,by simp⟩
 unfold Jaf Fw;cases hc:decide (k.CutSeq=0) with
 | true=>exact key 2 k k hs ho rfl rfl rfl _
 | false=>
  obtain ⟨w,e1,h1⟩:=Jtm hO (k:=k) hs oG ho;obtain ⟨w',e2,h2,h3,h4⟩:=Kf9 (l:=l) (t:=t) (k:=k) hO hs he hr ho;simp only [cH,cond_true,e1,e2,aA];have hw:w.Steps.length<=100/\w.Origin=k.Origin/\w'.Steps=w.Steps/\w'.At=w.At:=by
   rcases h1 with ⟨c1,rfl⟩|⟨c1,rfl⟩
   ·rcases h4 with ⟨_,a,b⟩|⟨c2,_⟩
    ·exact ⟨hs,rfl,a,b⟩
    ·exact absurd c2 c1
   ·rcases h4 with ⟨c2,_⟩|⟨_,a,b⟩
    ·exact absurd c1 c2
    ·exact ⟨bG Js1 hs,rfl,a,b⟩
  obtain ⟨m,b,a1,a2,a3⟩:=key 3 w w' hw.1 (by rw [hw.2.1]; exact ho) hw.2.2.1 (by rw [h3,hw.2.1]) hw.2.2.2 (w64 (k.Sent+1));rw [<- h2] at a2;exact ⟨m,b,a1,a2,a3⟩
structure GI (t:Jq) (n i:Nat) (T:List Je) (S:List Jl) (M:List Jn):Prop where
 len:T.length=n
 se:S.length=n
 tr:∀ k∈T,TrX t T k
 ml:M.length<=i
 ms:∀ m∈M,m.Auth.Profile.length<=128/\m.Auth.Links.length<=24
theorem Jz7{T:List Je}{i:Nat}{k k':Je}(h:T[i]? = some k)(hr:k'.Routes=k.Routes):Jc5 t (T.set i k')=Jc5 t T:=by
 unfold Jc5;congr 1;refine List.filter_congr fun q _=>?_;congr 1;rw [dA,dH,dH];constructor
 ·rintro ⟨y,hy,hm⟩;rcases eD hy with hy|rfl
  ·exact ⟨y,hy,hm⟩
  ·exact ⟨k,aC h,by rw [<- hr]; exact hm⟩
 ·rintro ⟨y,hy,hm⟩;obtain ⟨j,hj⟩:=aS hy
  by_cases e:j=i
  ·subst e;rw [h] at hj; cases hj;exact ⟨k',aC (dM (Qs h)),by rw [hr]; exact hm⟩
  ·exact ⟨y,aC ((cQ (fun q=>e q.symm)).trans hj),hm⟩
theorem TrX.set{T:List Je}(h:∀ k∈T,TrX t T k){i:Nat}{k k':Je}(hk:T[i]? = some k)(h1:k'.Steps=k.Steps)(h2:k'.Starts=k.Starts)(h3:k'.Ends=k.Ends)(h4:k'.Done.length<=60)(h5:k'.Routes=k.Routes)(h6:k'.Origin=k.Origin):∀ y∈T.set i k',TrX t (T.set i k') y:=fun y hy=>by
 have hf:=Jz7 (t:=t) hk h5;rcases eD hy with hy|rfl
 ·have q:=h y hy;exact ⟨q.steps,q.starts,q.ends,q.done,by rw [hf]; exact q.rts,q.origin⟩
 ·have q:=h k (aC hk);exact ⟨by rw [h1]; exact q.steps,by rw [h2,h5]; exact q.starts,by rw [h3,h5]; exact q.ends,h4,by rw [hf,h5]; exact q.rts,by rw [h6]; exact q.origin⟩
theorem Jze(h:Sm l)(hO:OkL l)(hn:t.Routes.length<=50)(hR:∀ x∈t.Routes,RtT l x){s:Jx}{list:List Jj}(hl:list.length<=1048576)(now:Int){n i:Nat}(hn1:n<=1000)(hi:i<n){S0:List Jl}(hS0:S0.length=n){T:List Je}{S:List Jl}{M:List Jn}(hG:GI t n i T S M) :
  ∃ T' S' M',Dy l t s list now n S0 ((i:Int),T,S,M)=some (.inl (((i+1:Nat):Int),T',S',M'))/\De l t s list now ((i:Int),⟨T,S⟩,M)=some (.inl (((i+1:Nat):Int),⟨T',S'⟩,M'))/\GI t n (i+1) T' S' M':=by
 obtain ⟨hT,hS,hX,hml,hms⟩:=hG;have hk:=aB (show i<T.length by omega);generalize T[i]'(by omega)=k at hk;have hkX:=hX k (aC hk);have hf:=hkX.few;have hxi:Wd 0 n ((i:Nat):Int)=some i:=by rw [Jzh 0 hi,aW]
 have hld:Vd T n i=some k:=by rw [Jur hT]; exact hk
 have hse:=aB (show i<S.length by omega);generalize S[i]'(by omega)=se at hse;have n2:(((S0:List Jl).map cellsOf).length)=n:=by rw [aV,hS0]
 have hlds:Vd S n i=some se:=by rw [Jur hS]; exact hse
 have hX1:∀ y∈T.set i (Nw s k),TrX t (T.set i (Nw s k)) y:=TrX.set hX hk rfl rfl rfl (bG (bZ _ _) hkX.done) rfl rfl;have hl1:(T.set i (Nw s k)).length=n:=by rw [cG]; exact hT
 obtain ⟨f1,f2⟩:=Jym (s:=s) hO hn hR (i:=i) t.Routes.length (T:=T.set i (Nw s k)) oG oG hX1;have p1:=Kcr (s:=s) hO hn hR (T0:=T.set i (Nw s k)) oG hX1 (i:=i) oG;have p2:=Kir (s:=s) hO hn hR (T0:=T.set i (Nw s k)) (S:=S) oG oG hX1 (i:=i) oG;rw [hl1] at p1;generalize hT2:Jd4 l t s i t.Routes.length (T.set i (Nw s k))=T2 at f1 f2 p1 p2;have hk2:=aB (show i<T2.length by omega);generalize T2[i]'(by omega)=k2 at hk2;have hk2X:=f2 k2 (aC hk2);have hld2:Vd T2 n i=some k2:=by rw [Jur oG]; exact hk2
 have hr2:k2.Routes.length<=1000:=by have:=hk2X.rts; omega
 obtain ⟨m,b,o1,o2,o3,o4⟩:=Jy5 (t:=t) h hO (k:=k2) hk2X.steps hk2X.ends hr2 hk2X.origin hl;have happ:Qi M [(Jib se m now).2]=some (M++[(Jib se m now).2]):=by
  unfold Qi; rw [if_pos (by simp only [aE,aF,Js,Enc.b]; omega)]
 have hK:∀ y∈T2.set i (if b=true then Jmh k2 else k2),TrX t (T2.set i (if b=true then Jmh k2 else k2)) y:=by
  cases b with
  | true=>exact TrX.set f2 hk2 rfl rfl rfl hk2X.done rfl rfl
  | false=>exact TrX.set f2 hk2 rfl rfl rfl hk2X.done rfl rfl
 refine ⟨T2.set i (if b=true then Jmh k2 else k2),S.set i (Jib se m now).1,M++[(Jib se m now).2], ?_, ?_,⟨by rw [cG]; omega,by rw [cG]; exact hS,hK,by rw [aH,cC]; omega,fun y hy=>?_⟩⟩
 ·have:Is (Dy l t s list now n S0 ((i:Int),T,S,M)) fun r=>r=.inl (((i+1:Nat):Int),T2.set i (if b=true then Jmh k2 else k2),S.set i (Jib se m now).1,M++[(Jib se m now).2]):=by
   unfold Dy;dsimp only;rw [decide_eq_true oG,cond_true];simp only [hxi,hld,aA,Kc6 hf];refine Is.bind (φ:=fun T'=>T'=T2) ?_ fun T' hT'=>?_
   ·refine Is.onInl p1 (fun v hv=>?_) (fun b hb=>?_)
    ·rcases hv with e|e
     ·cases e; exact Is.val rfl
     ·cases e
    ·rcases hb with e|e
     ·cases e
     ·cases e; rfl
   ·subst hT';simp only [hld2,aA,o1,n2,hxi,hlds,Kg8 _ _ _ (show m.Auth.Profile.length<=1000 by omega) (show m.Auth.Links.length<=1000 by omega),happ];exact Is.val (by rw [Zi oG])
  obtain ⟨r,e,rfl⟩:=this;exact e
 ·unfold De;dsimp only;rw [decide_eq_true oG,cond_true,Vc hk,aA,Jyd hf,aA,Vc hse,aA,Jnv (c:=⟨T,S⟩) (by show T.length<=1000; omega) (by show S.length<=1000; omega) (by show i<T.length; omega) (by show i<S.length; omega),aA];dsimp only;rw [Jx7 hse,p2,aA];dsimp only;rw [Vc hk2,aA,o2,aA];dsimp only;cases b with
  | true=>
   simp only [cond_true,onInl,Vm,aA,if_true];rw [Vc hse,aA,Jsj,aA,show (Je.mk k2.Id k2.Origin k2.End k2.At k2.Steps k2.Routes k2.Starts k2.Ends k2.Done k2.Min (w64 (k2.Sent+1)) k2.Accepted k2.Cut k2.CutSeq)=Jmh k2 from rfl,Jnv (c:=⟨T2,S⟩) (by show T2.length<=1000; omega) (by show S.length<=1000; omega) (by show i<T2.length; omega) (by show i<S.length; omega),aA,happ,aA,Zi oG]
  | false=>
   simp only [cond_false,onInl,Vm,aA];rw [Vc hse,aA,Jsj,aA,Jnv (c:=⟨T2,S⟩) (by show T2.length<=1000; omega) (by show S.length<=1000; omega) (by show i<T2.length; omega) (by show i<S.length; omega),aA,happ,aA,Zi oG]
   rfl
 ·rcases aY.1 hy with hy|hy
  ·exact hms y hy
  ·rw [cA] at hy;subst hy;exact ⟨o3,o4⟩
theorem Jyc(h:Sm l)(hO:OkL l)(hn:t.Routes.length<=50)(hR:∀ x∈t.Routes,RtT l x){s:Jx}{list:List Jj}(hl:list.length<=1048576)(now:Int){n:Nat}(hn1:n<=1000){S0:List Jl}(hS0:S0.length=n) :
  ∀ (m i:Nat),i+m=n->∀ {T:List Je} {S:List Jl} {M:List Jn},GI t n i T S M ->
   ∃ T' S' M',Jp (Dy l t s list now n S0) ((i:Int),T,S,M)=some (.inl (T',S',M'))/\Jp (De l t s list now) ((i:Int),⟨T,S⟩,M)=some (.inl (M',T',S'))/\GI t n n T' S' M':=by
 intro m;induction m with
 | zero=>
  intro i hi T S M hG;have:i=n:=by omega
  subst this;refine ⟨T,S,M,Qd ?_,Qd ?_,hG⟩
  ·unfold Dy; dsimp only; rw [decide_eq_false oG,cond_false]
  ·unfold De; dsimp only; rw [hG.len,decide_eq_false oG,cond_false]
 | succ m ih=>
  intro i hi T S M hG;obtain ⟨T',S',M',e1,e2,hG'⟩:=Jze (s:=s) h hO hn hR hl now hn1 (show i<n by omega) hS0 hG;obtain ⟨a,b,c,q1,q2,q3⟩:=ih (i+1) oG hG';exact ⟨a,b,c,by rw [Vq e1]; exact q1,by rw [Vq e2]; exact q2,q3⟩
theorem Jz2(h:Sm l)(hO:OkL l)(hn:t.Routes.length<=50)(hR:∀ x∈t.Routes,RtT l x)(s:Jx){list:List Jj}(hl:list.length<=1048576)(now:Int){c:Jm}(hc:Kc0 c)(hX:c.Sessions.length=c.Tracks.length->∀ k∈c.Tracks,TrX t c.Tracks k) :
  ∃ r,Bh l t s list c now=some r/\Gm l t s list c now=some r/\Kc0 r.1/\r.2.length<=1000/\∀ m∈r.2,m.Auth.Profile.length<=128/\m.Auth.Links.length<=24:=by
 by_cases hs:c.Sessions.length=c.Tracks.length
 ·obtain ⟨T',S',M',e1,e2,hG⟩:=Jyc (s:=s) h hO hn hR hl now (n:=c.Tracks.length) hc.tr hs c.Tracks.length 0 oG (T:=c.Tracks) (S:=c.Sessions) (M:=[]) ⟨rfl,hs,hX hs,aJ _,fun m hm=>by cases hm⟩;have hct:=hc.tr;refine ⟨(⟨T',S'⟩,M'), ?_, ?_,⟨by show T'.length<=1000; rw [hG.len]; exact hct,by show S'.length<=1000; rw [hG.se]; exact hct,fun k hk=>(hG.tr k hk).few⟩,bG hG.ml hct,hG.ms⟩
  ·have:Is (Bh l t s list c now) fun r=>r=(⟨T',S'⟩,M'):=by
    unfold Bh;refine Is.bind (φ:=fun x=>x=(c.Tracks,c.Tracks.length,c.Sessions)) ?_ fun x hx=>?_
    ·refine Is.to (Kfj hc.tr) ?_;refine Is.onInl (θ:=fun o=>o=.inl c.Tracks) (Is.eq (Ka5 hc.tr hc.each)) (fun v hv=>?_) (fun b hb=>by cases hb);cases hv;rw [Kat hc.se,aA];exact Is.val sG
    ·subst hx;unfold Ci;simp only [aA];rw [decide_eq_true (by rw [hs])];refine Is.onInl (Is.eq e1) (fun v hv=>by cases hv; exact Is.val rfl) (fun b hb=>by cases hb)
   obtain ⟨r,e,rfl⟩:=this;exact e
  ·unfold Gm Em;rw [aA,decide_eq_true (by rw [hs])];simp only [aX,cond_false];rw [show ((0:Int),c,([]:List Jn))=(((0:Nat):Int),(⟨c.Tracks,c.Sessions⟩:Jm),[]) from rfl,e2]
   rfl
 ·refine ⟨(c,[]), ?_, ?_,hc,dO _,fun m hm=>by cases hm⟩
  ·have:Is (Bh l t s list c now) fun r=>r=(c,[]):=by
    unfold Bh;refine Is.bind (φ:=fun x=>x=(c.Tracks,c.Tracks.length,c.Sessions)) ?_ fun x hx=>?_
    ·refine Is.to (Kfj hc.tr) ?_;refine Is.onInl (θ:=fun o=>o=.inl c.Tracks) (Is.eq (Ka5 hc.tr hc.each)) (fun v hv=>?_) (fun b hb=>by cases hb);cases hv;rw [Kat hc.se,aA];exact Is.val sG
    ·subst hx;unfold Ci;simp only [aA];rw [decide_eq_false oG];exact Is.val rfl
   obtain ⟨r,e,rfl⟩:=this;exact e
  ·unfold Gm Em;rw [aA,decide_eq_false oG]
   rfl
end
theorem Kk7{l:Ja}(hO:OkL l){rt:Jh}(h:TbR l rt):RtT l rt:=by
 have hp:=h.p1;have hel:∀ s∈rt.Path,Um l s.El=true:=fun s hs=>by
  obtain ⟨i,hi⟩:=aS hs;obtain ⟨e,_,_,h1,_⟩:=Jc0 hO h.vp hi;exact h1
 refine ⟨by omega,by rw [h.se]; have:=Jj9 l rt.Path; omega, ?_,hel⟩;rw [h.se];have hs:=aB h.p0;have hm:=aC hs;generalize rt.Path[0]'h.p0=s at hs hm;obtain ⟨e,_,e2⟩:=Vj (hel s hm);have:e.Section∈Jbm l rt.Path:=by
  unfold Jbm;rw [Kdf,List.mem_filterMap];exact ⟨s,hm,by unfold Jqj; rw [hel s hm,e2]; rfl⟩
 exact dN this
theorem Jxe{m:Jn}(h1:m.Auth.Profile.length<=128)(h2:m.Auth.Links.length<=24):Sl m m=some true:=by
 have ha:Wl m.Auth m.Auth=some true:=by
  have:Is (Wl m.Auth m.Auth) fun b=>b=true:=by
   unfold Wl;simp only [decide_true,aX,fC,cond_false];obtain ⟨b,e,hb⟩:=Jri (p:=m.Auth.Profile) (q:=m.Auth.Profile) oG;rw [e,hb.2 rfl];simp only [aA,aX,cond_false];refine Is.all (L:=m.Auth.Links) (fun _ _=>True) () oG (fun i y hy hi _=>?_) (by simp [Zn]) fun _=>Is.val rfl;unfold Zn;refine Is.inb hi (Is.at hy (Is.at hy ?_));rw [show Jas y y=true by simp [Jas]];exact Is.val ⟨rfl,trivial⟩
  obtain ⟨b,e,rfl⟩:=this;exact e
 unfold Sl;simp only [decide_true,Bool.and_self,cond_true,ha,aA,Kls]
theorem Jrb{M:List Jn}(hl:M.length<=1000)(h:∀ m∈M,m.Auth.Profile.length<=128/\m.Auth.Links.length<=24):Ww M M=some true:=by
 have:Is (Ww M M) fun b=>b=true:=by
  unfold Ww;simp only [decide_true,aX,cond_false];refine Is.all (L:=M) (fun _ _=>True) () oG (fun i y hy hi _=>?_) (by simp [Bf]) fun _=>Is.val rfl;unfold Bf;refine Is.inb hi (Is.at hy (Is.at hy ?_));have q:=h y (aC hy);rw [Jxe q.1 q.2];exact Is.val ⟨rfl,trivial⟩
 obtain ⟨b,e,rfl⟩:=this;exact e
theorem Jro{x:Jz}(h:Ket x)(now:Int):Zm x now=some true:=by
 have:Is (Zm x now) fun b=>b=true:=by
  unfold Zm;rw [Jz4];refine (Kes h).bind fun r1 h1=>?_;cases r1 with
  | false=>exact Is.val rfl
  | true=>
   obtain ⟨hO,hF,hn,hsl,hrt,hok,htb,hr60,_⟩:=h1 rfl;have hX:∀ k∈x.Center.Tracks,TrX x.Table x.Center.Tracks k:=fun k hk=>by
    have q:=hok k hk;have:=Jw3 x.Table x.Center.Tracks;have:=(hr60 k hk).1;exact ⟨q.steps,q.starts,q.ends,q.done,by omega,q.origin⟩
   obtain ⟨r,e1,e2,g1,g2,g3⟩:=Jz2 h.sm hO hn (fun rt hm=>Kk7 hO (htb rt hm)) x.Inter (list:=x.Slow) oG now hF fun _=>hX;simp only [aX,cond_false];rw [e1,e2];simp only [aA,Jwc g1,Jrb g2 g3,cond_true];exact Is.val rfl
 obtain ⟨b,h1,rfl⟩:=this;exact h1
end PM
