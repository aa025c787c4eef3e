/-
 Plain functions for the program's functions, and the proofs that the program does them. Printed by den.py.
-/
import Derived.Test.YtombbpdpmagngaaGreatDoorDen0
namespace PM
open Go Go.RowKit
attribute [local irreducible] Kp pwp
/-! (*route.finder).pass -/
noncomputable def Ut (a0:Jz) (a1:(List Jb)):Option (Jz×Jg) :=
 onInl (α:=Unit) (β:=(Jz×Jg)) (
  (Fa a1).bind fun r6 =>
  (Va a0.l_ r6).bind fun r7 =>
  bif decide (r7<0) then (
   (Rl 0 (((a1:(List Jb)).map cellsOf).length) (w64 (((((a1:(List Jb)).map cellsOf).length:Nat):Int) - 1))).bind fun j8 =>
   (Pw a1 (((a1:(List Jb)).map cellsOf).length) j8).bind fun x9 =>
   (Ha a0.l_ x9).bind fun r10 =>
   bif r10.2 then (
    some (.inr (a0,r10.1))
   ) else (
    some (.inl ())
   )
  ) else (
   some (.inl ())
  )
 ) fun _ =>
 (Qf a1).bind fun r11 =>
 (Vv a0.paths_ [r11]).bind fun x12 =>
 some ((Jz.mk a0.l_ x12),(Jg.mk (-1) 0))
theorem Hs (a0:Jz) (a1:(List Jb)) (r:(Jz×Jg)) (h:Ut a0 a1=some r):Jah Go.Proofs.Tryz.prog GlS 64 (some (.cells [.str a0.l_.Name,Jo .frozen a0.l_.Sections,Jo .frozen a0.l_.Elements,Jo .frozen a0.l_.Joints,Jo .frozen a0.l_.Signals,Jo .frozen a0.l_.Balises,.ex 1000000000 1 24 (((a0.paths_:(List (List Jb))).map cellsOf).length) 0 (((a0.paths_:(List (List Jb))).map cellsOf).length)])) [(1,24,(a0.paths_:(List (List Jb))).map cellsOf),(3,24,(a1:(List Jb)).map cellsOf)] [.ref 1000000 0,.ex 1000000001 3 24 (((a1:(List Jb)).map cellsOf).length) 0 (((a1:(List Jb)).map cellsOf).length)] (Enc.pv r.2) (some (.cells [.str r.1.l_.Name,Jo .frozen r.1.l_.Sections,Jo .frozen r.1.l_.Elements,Jo .frozen r.1.l_.Joints,Jo .frozen r.1.l_.Signals,Jo .frozen r.1.l_.Balises,.ex 1000000000 1 24 (((r.1.paths_:(List (List Jb))).map cellsOf).length) 0 (((r.1.paths_:(List (List Jb))).map cellsOf).length)])) [(1,24,(r.1.paths_:(List (List Jb))).map cellsOf),(3,24,(a1:(List Jb)).map cellsOf)]:=by
 unfold Ut at h
 refine Sy Go.Proofs.Tryz.func64 (by rfl) rfl Go.Proofs.Tryz.ntmps64 (by rfl) rfl rfl (of_decide_eq_true rfl) (by kernel_rfl) ?_
 refine Ja (Jf (zE (Jc ?_)))
 obtain ⟨o7,h7,h⟩:=Kq h
 refine Vx (o:=o7) 43 (fun (_:Unit)=>⟨[(0,.ref 1000000 0),(1,.ex 1000000001 3 24 (((a1:(List Jb)).map cellsOf).length) 0 (((a1:(List Jb)).map cellsOf).length)),(4,.ref 4 0)],[(4,.cells ([.int .i64 0,.int .i64 0])),(1000000,.cells ([.str a0.l_.Name,Jo .frozen a0.l_.Sections,Jo .frozen a0.l_.Elements,Jo .frozen a0.l_.Joints,Jo .frozen a0.l_.Signals,Jo .frozen a0.l_.Balises,.ex 1000000000 1 24 (((a0.paths_:(List (List Jb))).map cellsOf).length) 0 (((a0.paths_:(List (List Jb))).map cellsOf).length)]))],[(1000000000,(((a0.paths_:(List (List Jb))).map cellsOf).length,0)),(1000000001,(((a1:(List Jb)).map cellsOf).length,0))],[(1000000000,(1,(24,(a0.paths_:(List (List Jb))).map cellsOf))),(1000000001,(3,(24,(a1:(List Jb)).map cellsOf)))]⟩) ?_ ?_
 ·refine Ja ?_
  obtain ⟨r6,h8,h7⟩:=Jh h7
  obtain ⟨r7,h9,h7⟩:=Jh h7
  refine Jsf 43 ⟨[(0,.ref 1000000 0),(1,.ex 1000000001 3 24 (((a1:(List Jb)).map cellsOf).length) 0 (((a1:(List Jb)).map cellsOf).length)),(4,.ref 4 0),(14,.bool (decide (r7<0)))],[(4,.cells ([.int .i64 0,.int .i64 0])),(1000000,.cells ([.str a0.l_.Name,Jo .frozen a0.l_.Sections,Jo .frozen a0.l_.Elements,Jo .frozen a0.l_.Joints,Jo .frozen a0.l_.Signals,Jo .frozen a0.l_.Balises,.ex 1000000000 1 24 (((a0.paths_:(List (List Jb))).map cellsOf).length) 0 (((a0.paths_:(List (List Jb))).map cellsOf).length)]))],[(1000000000,(((a0.paths_:(List (List Jb))).map cellsOf).length,0)),(1000000001,(((a1:(List Jb)).map cellsOf).length,0))],[(1000000000,(1,(24,(a0.paths_:(List (List Jb))).map cellsOf))),(1000000001,(3,(24,(a1:(List Jb)).map cellsOf)))]⟩ (by kernel_rfl) ?_ ?_
  ·refine Hr [0,1,2,4] 4 (by kernel_rfl) ?_
   refine Ue (n:=3) [3,5] (by kernel_rfl) ⟨?_, ?_,trivial⟩
   ·refine ⟨_,rfl, ?_⟩
    refine zR 1 (Uu (by kernel_rfl) ?_)
    refine Ue (n:=2) [5] (by kernel_rfl) ⟨?_,trivial⟩
    refine ⟨_,rfl, ?_⟩
    refine Jpx [1000000001] (Mm _ r6 h8) (by kernel_rfl) (by kernel_rfl) (by kernel_rfl) ?_
    refine Uu (by kernel_rfl) ?_
    refine Ue (n:=1) [6] (by kernel_rfl) ⟨?_,trivial⟩
    refine ⟨_,rfl, ?_⟩
    refine Ju (Yu _ _ r7 h9) (by kernel_rfl) (by kernel_rfl) (Uu (by kernel_rfl) ?_)
    refine Ue (n:=0) [7] (by kernel_rfl) ⟨?_,trivial⟩
    refine ⟨_,rfl, ?_⟩
    refine zR 1 (Uu (by kernel_rfl) ?_)
    exact Pm (by kernel_rfl) (.of (by kernel_rfl) (by kernel_rfl))
   refine ⟨_,rfl, ?_⟩
   refine Jpx [1000000001] (Mm _ r6 h8) (by kernel_rfl) (by kernel_rfl) (by kernel_rfl) ?_
   refine Uu (by kernel_rfl) ?_
   refine Ue (n:=2) [3] (by kernel_rfl) ⟨?_,trivial⟩
   refine ⟨_,rfl, ?_⟩
   refine zR 1 (Uu (by kernel_rfl) ?_)
   refine Ue (n:=1) [6] (by kernel_rfl) ⟨?_,trivial⟩
   refine ⟨_,rfl, ?_⟩
   refine Ju (Yu _ _ r7 h9) (by kernel_rfl) (by kernel_rfl) (Uu (by kernel_rfl) ?_)
   refine Ue (n:=0) [7] (by kernel_rfl) ⟨?_,trivial⟩
   refine ⟨_,rfl, ?_⟩
   refine zR 1 (Uu (by kernel_rfl) ?_)
   exact Pm (by kernel_rfl) (.of (by kernel_rfl) (by kernel_rfl))
  refine Jc ?_
  rcases Jk h7 with ⟨hb,h7⟩|⟨hb,h7⟩
  ·refine zT hb (Ja (Kv (by kernel_rfl) (by kernel_rfl) (zR 8 ?_)))
   obtain ⟨j8,h10,h7⟩:=Jh h7
   refine Xu (tk:=1000000001) (k:=3) (N:=((a1:(List Jb)).map cellsOf).length) h10 (by kernel_rfl) ?_
   obtain ⟨x9,h11,h7⟩:=Jh h7
   refine Jb3 (L:=(a1:(List Jb))) (N:=((a1:(List Jb)).map cellsOf).length) (j:=j8) (y:=x9) (v:=Enc.pv x9) h11 true 3 0 (by kernel_rfl) (by kernel_rfl) ?_
   obtain ⟨r10,h12,h7⟩:=Jh h7
   refine Ju (Jai _ _ r10 h12) (by kernel_rfl) (by kernel_rfl) (zE (Jc (Ja (Jf (zE (Jc ?_))))))
   rcases Jk h7 with ⟨hb,h7⟩|⟨hb,h7⟩
   ·refine zT hb (Ja (Jf (zE (Jc (Jp ?_)))))
    cases h7
    refine Gs ?_
    have h13:=Ku h
    cases h13
    exact Jlb (by kernel_rfl) (by kernel_rfl) (by kernel_rfl)
   refine zU hb (Jj ?_)
   cases h7
   exact zJ
  refine zU hb (Jj ?_)
  cases h7
  exact zJ
 rintro _ rfl
 have h:=Kg h
 refine Ja ?_
 obtain ⟨r11,h14,h⟩:=Jh h
 obtain ⟨x12,h15,h⟩:=Jh h
 refine Jsf 43 ⟨[(4,.ref 4 0)],[(4,.cells ([.int .i64 0,.int .i64 0])),(1000000,.cells ([.str a0.l_.Name,Jo .frozen a0.l_.Sections,Jo .frozen a0.l_.Elements,Jo .frozen a0.l_.Joints,Jo .frozen a0.l_.Signals,Jo .frozen a0.l_.Balises,.ex 1000000000 1 24 (((x12:(List (List Jb))).map cellsOf).length) 0 (((x12:(List (List Jb))).map cellsOf).length)]))],[(1000000000,(((x12:(List (List Jb))).map cellsOf).length,0)),(1000000001,(((a1:(List Jb)).map cellsOf).length,0))],[(1000000000,(1,(24,(x12:(List (List Jb))).map cellsOf))),(1000000001,(3,(24,(a1:(List Jb)).map cellsOf)))]⟩ (by kernel_rfl) ?_ ?_
 ·refine Hr [0,1,2,3,5] 7 (by kernel_rfl) ?_
  refine Ue (n:=6) [4,6] (by kernel_rfl) ⟨?_, ?_,trivial⟩
  ·refine ⟨_,rfl, ?_⟩
   refine zR 1 (Uu (by kernel_rfl) ?_)
   refine Ue (n:=5) [6] (by kernel_rfl) ⟨?_,trivial⟩
   refine ⟨_,rfl, ?_⟩
   refine Jpz (α:=Jb) [1000000001] (Uc _ r11 h14) (fun _=>by kernel_rfl) (by kernel_rfl) (by kernel_rfl) ?_
   refine Uu (by kernel_rfl) ?_
   refine Ue (n:=4) [7] (by kernel_rfl) ⟨?_,trivial⟩
   refine ⟨_,rfl, ?_⟩
   refine zR 1 (Uu (by kernel_rfl) ?_)
   refine Ue (n:=3) [8] (by kernel_rfl) ⟨?_,trivial⟩
   refine ⟨_,rfl, ?_⟩
   refine Tg (tk:=1000000000) (N:=((a0.paths_:(List (List Jb))).map cellsOf).length) h15 (by kernel_rfl) (by kernel_rfl) (by kernel_rfl) ?_
   refine Uu (by kernel_rfl) ?_
   refine Hr [9,10] 1 (by kernel_rfl) ?_
   refine Ue (n:=0) [11] (by kernel_rfl) ⟨?_,trivial⟩
   refine ⟨_,rfl, ?_⟩
   refine zR 1 (Uu (by kernel_rfl) ?_)
   exact Pm (by kernel_rfl) (.of (by kernel_rfl) (by kernel_rfl))
  refine ⟨_,rfl, ?_⟩
  refine Jpz (α:=Jb) [1000000001] (Uc _ r11 h14) (fun _=>by kernel_rfl) (by kernel_rfl) (by kernel_rfl) ?_
  refine Uu (by kernel_rfl) ?_
  refine Ue (n:=5) [4,7] (by kernel_rfl) ⟨?_, ?_,trivial⟩
  ·refine ⟨_,rfl, ?_⟩
   refine zR 1 (Uu (by kernel_rfl) ?_)
   refine Ue (n:=4) [7] (by kernel_rfl) ⟨?_,trivial⟩
   refine ⟨_,rfl, ?_⟩
   refine zR 1 (Uu (by kernel_rfl) ?_)
   refine Ue (n:=3) [8] (by kernel_rfl) ⟨?_,trivial⟩
   refine ⟨_,rfl, ?_⟩
   refine Tg (tk:=1000000000) (N:=((a0.paths_:(List (List Jb))).map cellsOf).length) h15 (by kernel_rfl) (by kernel_rfl) (by kernel_rfl) ?_
   refine Uu (by kernel_rfl) ?_
   refine Hr [9,10] 1 (by kernel_rfl) ?_
   refine Ue (n:=0) [11] (by kernel_rfl) ⟨?_,trivial⟩
   refine ⟨_,rfl, ?_⟩
   refine zR 1 (Uu (by kernel_rfl) ?_)
   exact Pm (by kernel_rfl) (.of (by kernel_rfl) (by kernel_rfl))
  refine ⟨_,rfl, ?_⟩
  refine zR 1 (Uu (by kernel_rfl) ?_)
  refine Ue (n:=4) [4] (by kernel_rfl) ⟨?_,trivial⟩
  refine ⟨_,rfl, ?_⟩
  refine zR 1 (Uu (by kernel_rfl) ?_)
  refine Ue (n:=3) [8] (by kernel_rfl) ⟨?_,trivial⟩
  refine ⟨_,rfl, ?_⟩
  refine Tg (tk:=1000000000) (N:=((a0.paths_:(List (List Jb))).map cellsOf).length) h15 (by kernel_rfl) (by kernel_rfl) (by kernel_rfl) ?_
  refine Uu (by kernel_rfl) ?_
  refine Hr [9,10] 1 (by kernel_rfl) ?_
  refine Ue (n:=0) [11] (by kernel_rfl) ⟨?_,trivial⟩
  refine ⟨_,rfl, ?_⟩
  refine zR 1 (Uu (by kernel_rfl) ?_)
  exact Pm (by kernel_rfl) (.of (by kernel_rfl) (by kernel_rfl))
 refine Jc (Ja (Jf (zE (Jc (Jp ?_)))))
 cases h
 exact Jlb (by kernel_rfl) (by kernel_rfl) (by kernel_rfl)
/-! (*route.finder).follow -/
noncomputable def Ws (rc_d_route_finder_follow:Jz→(List Jb)→Jg→Option Jz) (x80:(List Jb)) (r163:(List Jb)):(Int×ByteArray×(List ByteArray)×(List Jq)×(List Jx)×(List Js)×(List Kh)×(List (List Jb)))→Option ((Int×ByteArray×(List ByteArray)×(List Jq)×(List Jx)×(List Js)×(List Kh)×(List (List Jb)))⊕(((List (List Jb))×ByteArray×(List ByteArray)×(List Jq)×(List Jx)×(List Js)×(List Kh))⊕((ByteArray×(List ByteArray)×(List Jq)×(List Jx)×(List Js)×(List Kh)×Jg×(List Jb)×(List (List Jb)))⊕(((List (List Jb))×ByteArray×(List ByteArray)×(List Jq)×(List Jx)×(List Js)×(List Kh))⊕Jz)))):=fun (x184,x185,x186,x187,x188,x189,x190,x191) =>
 bif decide (x184<((r163.length:Nat):Int)) then (
  onInl (α:=((List (List Jb))×ByteArray×(List ByteArray)×(List Jq)×(List Jx)×(List Js)×(List Kh))) (β:=((Int×ByteArray×(List ByteArray)×(List Jq)×(List Jx)×(List Js)×(List Kh)×(List (List Jb)))⊕(((List (List Jb))×ByteArray×(List ByteArray)×(List Jq)×(List Jx)×(List Js)×(List Kh))⊕((ByteArray×(List ByteArray)×(List Jq)×(List Jx)×(List Js)×(List Kh)×Jg×(List Jb)×(List (List Jb)))⊕(((List (List Jb))×ByteArray×(List ByteArray)×(List Jq)×(List Jx)×(List Js)×(List Kh))⊕Jz))))) (
   (ixO r163 x184).bind fun x228 =>
   (Qf x80).bind fun r229 =>
   (Vv r229 [x228]).bind fun x230 =>
   (Ut (Jz.mk (Jd.mk x185 x186 x187 x188 x189 x190) x191) x230).bind fun r231 =>
   bif decide (0≤r231.2.El) then (
    (rc_d_route_finder_follow r231.1 x230 r231.2).bind fun r232 =>
    some (.inl (r232.paths_,r232.l_.Name,r232.l_.Sections,r232.l_.Elements,r232.l_.Joints,r232.l_.Signals,r232.l_.Balises))
   ) else (
    some (.inl (r231.1.paths_,r231.1.l_.Name,r231.1.l_.Sections,r231.1.l_.Elements,r231.1.l_.Joints,r231.1.l_.Signals,r231.1.l_.Balises))
   )
  ) fun (x221,x222,x223,x224,x225,x226,x227) =>
  some (.inl (w64 (x184+1),x222,x223,x224,x225,x226,x227,x221))
 ) else (
  some (.inr (.inl (x191,x185,x186,x187,x188,x189,x190)))
 )
noncomputable def Bm (rc_d_route_finder_follow:Jz→(List Jb)→Jg→Option Jz):(ByteArray×(List ByteArray)×(List Jq)×(List Jx)×(List Js)×(List Kh)×Jg×(List Jb)×(List (List Jb)))→Option ((ByteArray×(List ByteArray)×(List Jq)×(List Jx)×(List Js)×(List Kh)×Jg×(List Jb)×(List (List Jb)))⊕(((List (List Jb))×ByteArray×(List ByteArray)×(List Jq)×(List Jx)×(List Js)×(List Kh))⊕Jz)):=fun (x73,x74,x75,x76,x77,x78,x79,x80,x81) =>
 ((bif decide (((((x80:(List Jb)).map cellsOf).length:Nat):Int)=12) then some true else (
  (Vl (Jz.mk (Jd.mk x73 x74 x75 x76 x77 x78) x81) x80 x79.El).bind fun r162 =>
  some (!r162)
 )):Option Bool).bind fun b161 =>
 bif b161 then (
  some (.inr (.inr (Jz.mk (Jd.mk x73 x74 x75 x76 x77 x78) x81)))
 ) else (
  (Zl (Jd.mk x73 x74 x75 x76 x77 x78) x79).bind fun r163 =>
  bif decide (((r163.length:Nat):Int)=1) then (
   (ixO r163 0).bind fun x164 =>
   (Vv x80 [x164]).bind fun x165 =>
   (Ut (Jz.mk (Jd.mk x73 x74 x75 x76 x77 x78) x81) x165).bind fun r166 =>
   bif decide (0≤r166.2.El) then (
    some (.inl (r166.1.l_.Name,r166.1.l_.Sections,r166.1.l_.Elements,r166.1.l_.Joints,r166.1.l_.Signals,r166.1.l_.Balises,r166.2,x165,r166.1.paths_))
   ) else (
    some (.inr (.inr r166.1))
   )
  ) else (
   onInl (α:=((List (List Jb))×ByteArray×(List ByteArray)×(List Jq)×(List Jx)×(List Js)×(List Kh))) (β:=((ByteArray×(List ByteArray)×(List Jq)×(List Jx)×(List Js)×(List Kh)×Jg×(List Jb)×(List (List Jb)))⊕(((List (List Jb))×ByteArray×(List ByteArray)×(List Jq)×(List Jx)×(List Js)×(List Kh))⊕Jz))) (Kl (Ws rc_d_route_finder_follow x80 r163) (0,x73,x74,x75,x76,x77,x78,x81)) fun (x209,x210,x211,x212,x213,x214,x215) =>
   some (.inr (.inl (x209,x210,x211,x212,x213,x214,x215)))
  )
 )
noncomputable def Ud (rc_d_route_finder_follow:Jz→(List Jb)→Jg→Option Jz) (a0:Jz) (a1:(List Jb)) (a2:Jg):Option Jz :=
 onInl (α:=((List (List Jb))×ByteArray×(List ByteArray)×(List Jq)×(List Jx)×(List Js)×(List Kh))) (β:=Jz) (Kl (Bm rc_d_route_finder_follow) (a0.l_.Name,a0.l_.Sections,a0.l_.Elements,a0.l_.Joints,a0.l_.Signals,a0.l_.Balises,a2,a1,a0.paths_)) fun (x154,x155,x156,x157,x158,x159,x160) =>
 some (Jz.mk (Jd.mk x155 x156 x157 x158 x159 x160) x154)
theorem Dp (rc_d_route_finder_follow:Jz→(List Jb)→Jg→Option Jz) (hrc_d_route_finder_follow:∀ (a0:Jz) (a1:(List Jb)) (a2:Jg) (r:Jz),rc_d_route_finder_follow a0 a1 a2=some r→Jah Go.Proofs.Tryz.prog GlS 28 (some (.cells [.str a0.l_.Name,Jo .frozen a0.l_.Sections,Jo .frozen a0.l_.Elements,Jo .frozen a0.l_.Joints,Jo .frozen a0.l_.Signals,Jo .frozen a0.l_.Balises,.ex 1000000000 1 24 (((a0.paths_:(List (List Jb))).map cellsOf).length) 0 (((a0.paths_:(List (List Jb))).map cellsOf).length)])) [(1,24,(a0.paths_:(List (List Jb))).map cellsOf),(3,24,(a1:(List Jb)).map cellsOf)] [.ref 1000000 0,.ex 1000000001 3 24 (((a1:(List Jb)).map cellsOf).length) 0 (((a1:(List Jb)).map cellsOf).length),Enc.pv a2] (.tup []) (some (.cells [.str r.l_.Name,Jo .frozen r.l_.Sections,Jo .frozen r.l_.Elements,Jo .frozen r.l_.Joints,Jo .frozen r.l_.Signals,Jo .frozen r.l_.Balises,.ex 1000000000 1 24 (((r.paths_:(List (List Jb))).map cellsOf).length) 0 (((r.paths_:(List (List Jb))).map cellsOf).length)])) [(1,24,(r.paths_:(List (List Jb))).map cellsOf)]) (a0:Jz) (a1:(List Jb)) (a2:Jg) (r:Jz) (h:Ud rc_d_route_finder_follow a0 a1 a2=some r):Jah Go.Proofs.Tryz.prog GlS 28 (some (.cells [.str a0.l_.Name,Jo .frozen a0.l_.Sections,Jo .frozen a0.l_.Elements,Jo .frozen a0.l_.Joints,Jo .frozen a0.l_.Signals,Jo .frozen a0.l_.Balises,.ex 1000000000 1 24 (((a0.paths_:(List (List Jb))).map cellsOf).length) 0 (((a0.paths_:(List (List Jb))).map cellsOf).length)])) [(1,24,(a0.paths_:(List (List Jb))).map cellsOf),(3,24,(a1:(List Jb)).map cellsOf)] [.ref 1000000 0,.ex 1000000001 3 24 (((a1:(List Jb)).map cellsOf).length) 0 (((a1:(List Jb)).map cellsOf).length),Enc.pv a2] (.tup []) (some (.cells [.str r.l_.Name,Jo .frozen r.l_.Sections,Jo .frozen r.l_.Elements,Jo .frozen r.l_.Joints,Jo .frozen r.l_.Signals,Jo .frozen r.l_.Balises,.ex 1000000000 1 24 (((r.paths_:(List (List Jb))).map cellsOf).length) 0 (((r.paths_:(List (List Jb))).map cellsOf).length)])) [(1,24,(r.paths_:(List (List Jb))).map cellsOf)]:=by
 unfold Ud at h
 refine Sy Go.Proofs.Tryz.func28 (by rfl) rfl Go.Proofs.Tryz.ntmps28 (by rfl) rfl rfl (of_decide_eq_true rfl) (by kernel_rfl) ?_
 refine Ja (Jf (zE (Jc ?_)))
 obtain ⟨o88,h88,h⟩:=Kq h
 refine Ju7 65 0 (fun (x73,x74,x75,x76,x77,x78,x79,x80,x81)=>⟨[(0,.ref 1000000 0),(1,.ex 1000000001 3 24 (((x80:(List Jb)).map cellsOf).length) 0 (((x80:(List Jb)).map cellsOf).length)),(5,.ref 5 0)],[(5,.cells (cellsOf x79)),(1000000,.cells ([.str x73,Jo .frozen (x74:(List ByteArray)),Jo .frozen (x75:(List Jq)),Jo .frozen (x76:(List Jx)),Jo .frozen (x77:(List Js)),Jo .frozen (x78:(List Kh)),.ex 1000000000 1 24 (((x81:(List (List Jb))).map cellsOf).length) 0 (((x81:(List (List Jb))).map cellsOf).length)]))],[(1000000000,(((x81:(List (List Jb))).map cellsOf).length,0)),(1000000001,(((x80:(List Jb)).map cellsOf).length,0))],[(1000000000,(1,(24,(x81:(List (List Jb))).map cellsOf))),(1000000001,(3,(24,(x80:(List Jb)).map cellsOf)))]⟩) (fun (x154,x155,x156,x157,x158,x159,x160)=>⟨[],[(1000000,.cells ([.str x155,Jo .frozen (x156:(List ByteArray)),Jo .frozen (x157:(List Jq)),Jo .frozen (x158:(List Jx)),Jo .frozen (x159:(List Js)),Jo .frozen (x160:(List Kh)),.ex 1000000000 1 24 (((x154:(List (List Jb))).map cellsOf).length) 0 (((x154:(List (List Jb))).map cellsOf).length)]))],[(1000000000,(((x154:(List (List Jb))).map cellsOf).length,0))],[(1000000000,(1,(24,(x154:(List (List Jb))).map cellsOf)))]⟩) h88 (by kernel_rfl) (fun _=>by kernel_rfl) ?_ ?_
 ·rintro ⟨x73,x74,x75,x76,x77,x78,x79,x80,x81⟩ oh87 h87
  unfold Bm at h87
  refine Ja (Ja (Jf ?_))
  obtain ⟨b161,h89,h87⟩:=Jh h87
  refine zR 4 ?_
  refine Kt 7 21 (.bool b161) ?_ ?_
  ·rcases Jk h89 with ⟨hb,h89⟩|⟨hb,h89⟩
   ·refine zS 14 hb ?_
    cases h89
    exact zF
   refine zS 14 hb (zR 4 ?_)
   obtain ⟨r162,h90,h89⟩:=Jh h89
   refine Jvb [1000000000,1000000001] (Tb _ _ _ r162 h90) (by kernel_rfl) (by kernel_rfl) (by kernel_rfl) ?_
   cases h89
   exact zF
  refine zN (Jc ?_)
  rcases Jk h87 with ⟨hb,h87⟩|⟨hb,h87⟩
  ·refine zT hb (Jp (Ji ?_))
   cases h87
   refine Jiw fun he=>?_
   subst he
   have h91:=Ku h
   cases h91
   exact Jlb (by kernel_rfl) (by kernel_rfl) (by kernel_rfl)
  refine zU hb (Jj (Jc (Ja (Kv (by kernel_rfl) (by kernel_rfl) (zR 5 ?_)))))
  obtain ⟨r163,h92,h87⟩:=Jh h87
  refine Ju (Jcu _ _ r163 h92) (by kernel_rfl) (by kernel_rfl) (zE (Jc (Ja (Ja (Jf (zR 1 ?_))))))
  refine Kf (L:=(r163:(List Jb))) (by kernel_rfl) ?_
  refine zE (Jc ?_)
  rcases Jk h87 with ⟨hb,h87⟩|⟨hb,h87⟩
  ·refine zT hb (Ja (Jf (zR 2 ?_)))
   obtain ⟨x164,h93,h87⟩:=Jh h87
   refine zI h93 (zR 2 ?_)
   obtain ⟨x165,h94,h87⟩:=Jh h87
   refine Tg (tk:=1000000001) (N:=((x80:(List Jb)).map cellsOf).length) h94 (by kernel_rfl) (by kernel_rfl) (by kernel_rfl) ?_
   refine zE (Jc (Ja (Ja (Jf (zR 2 ?_)))))
   obtain ⟨r166,h95,h87⟩:=Jh h87
   refine Jbj (some 1000000) [1000000000,1000000001] [] none (Hs _ _ r166 h95) (by kernel_rfl) (by kernel_rfl) (by kernel_rfl) (by kernel_rfl) (by kernel_rfl) ?_
   refine zE (Jc (Ja (Jf (zE (Jc ?_)))))
   rcases Jk h87 with ⟨hb,h87⟩|⟨hb,h87⟩
   ·refine zT hb (Jts (Jhr (Jhr ?_)))
    cases h87
    exact Juv (by kernel_rfl)
   refine zU hb (Jj (Jc (Jp (Ji ?_))))
   cases h87
   refine Jiw fun he=>?_
   subst he
   have h96:=Ku h
   cases h96
   exact Jlb (by kernel_rfl) (by kernel_rfl) (by kernel_rfl)
  refine zU hb (Jj (Jc (Ja (Jf (zR 1 ?_)))))
  refine Kf (L:=(r163:(List Jb))) (by kernel_rfl) ?_
  refine zE (Jc (Jn ?_))
  obtain ⟨o120,h120,h87⟩:=Kq h87
  refine Ki 65 0 (fun (x184,x185,x186,x187,x188,x189,x190,x191)=>⟨[(0,.ref 1000000 0),(1,.ex 1000000001 3 24 (((x80:(List Jb)).map cellsOf).length) 0 (((x80:(List Jb)).map cellsOf).length)),(43,Jo .frozen (r163:(List Jb))),(44,.int .i64 ((r163.length:Nat):Int)),(45,.int .i64 x184)],[(1000000,.cells ([.str x185,Jo .frozen (x186:(List ByteArray)),Jo .frozen (x187:(List Jq)),Jo .frozen (x188:(List Jx)),Jo .frozen (x189:(List Js)),Jo .frozen (x190:(List Kh)),.ex 1000000000 1 24 (((x191:(List (List Jb))).map cellsOf).length) 0 (((x191:(List (List Jb))).map cellsOf).length)]))],[(1000000000,(((x191:(List (List Jb))).map cellsOf).length,0)),(1000000001,(((x80:(List Jb)).map cellsOf).length,0))],[(1000000000,(1,(24,(x191:(List (List Jb))).map cellsOf))),(1000000001,(3,(24,(x80:(List Jb)).map cellsOf)))]⟩) (fun (x209,x210,x211,x212,x213,x214,x215)=>⟨[],[(1000000,.cells ([.str x210,Jo .frozen (x211:(List ByteArray)),Jo .frozen (x212:(List Jq)),Jo .frozen (x213:(List Jx)),Jo .frozen (x214:(List Js)),Jo .frozen (x215:(List Kh)),.ex 1000000000 1 24 (((x209:(List (List Jb))).map cellsOf).length) 0 (((x209:(List (List Jb))).map cellsOf).length)]))],[(1000000000,(((x209:(List (List Jb))).map cellsOf).length,0))],[(1000000000,(1,(24,(x209:(List (List Jb))).map cellsOf)))]⟩) h120 (by kernel_rfl) (fun _=>by kernel_rfl) ?_ ?_
  ·rintro ⟨x184,x185,x186,x187,x188,x189,x190,x191⟩ oh119 h119
   unfold Ws at h119
   refine Ja (Jf (zE (Jc (Ja ?_))))
   rcases Jk h119 with ⟨hb,h119⟩|⟨hb,h119⟩
   ·refine zT hb (Jj (Jc ?_))
    obtain ⟨o126,h126,h119⟩:=Kq h119
    refine Vx (o:=o126) 65 (fun (x221,x222,x223,x224,x225,x226,x227)=>⟨[(0,.ref 1000000 0),(1,.ex 1000000001 3 24 (((x80:(List Jb)).map cellsOf).length) 0 (((x80:(List Jb)).map cellsOf).length)),(43,Jo .frozen (r163:(List Jb))),(44,.int .i64 ((r163.length:Nat):Int)),(45,.int .i64 x184)],[(1000000,.cells ([.str x222,Jo .frozen (x223:(List ByteArray)),Jo .frozen (x224:(List Jq)),Jo .frozen (x225:(List Jx)),Jo .frozen (x226:(List Js)),Jo .frozen (x227:(List Kh)),.ex 1000000000 1 24 (((x221:(List (List Jb))).map cellsOf).length) 0 (((x221:(List (List Jb))).map cellsOf).length)]))],[(1000000000,(((x221:(List (List Jb))).map cellsOf).length,0)),(1000000001,(((x80:(List Jb)).map cellsOf).length,0))],[(1000000000,(1,(24,(x221:(List (List Jb))).map cellsOf))),(1000000001,(3,(24,(x80:(List Jb)).map cellsOf)))]⟩) ?_ ?_
    ·refine Jn (Ja (Jf ?_))
     obtain ⟨x228,h127,h126⟩:=Jh h126
     refine zI h127 (zE (Jc (Ja ?_)))
     obtain ⟨r229,h128,h126⟩:=Jh h126
     obtain ⟨x230,h129,h126⟩:=Jh h126
     refine Jsf 65 ⟨[(0,.ref 1000000 0),(1,.ex 1000000001 3 24 (((x80:(List Jb)).map cellsOf).length) 0 (((x80:(List Jb)).map cellsOf).length)),(9,.ex 50 3 24 (((x230:(List Jb)).map cellsOf).length) 0 (((x230:(List Jb)).map cellsOf).length)),(43,Jo .frozen (r163:(List Jb))),(44,.int .i64 ((r163.length:Nat):Int)),(45,.int .i64 x184)],[(1000000,.cells ([.str x185,Jo .frozen (x186:(List ByteArray)),Jo .frozen (x187:(List Jq)),Jo .frozen (x188:(List Jx)),Jo .frozen (x189:(List Js)),Jo .frozen (x190:(List Kh)),.ex 1000000000 1 24 (((x191:(List (List Jb))).map cellsOf).length) 0 (((x191:(List (List Jb))).map cellsOf).length)]))],[(50,(((x230:(List Jb)).map cellsOf).length,0)),(1000000000,(((x191:(List (List Jb))).map cellsOf).length,0)),(1000000001,(((x80:(List Jb)).map cellsOf).length,0))],[(50,(3,(24,(x230:(List Jb)).map cellsOf))),(1000000000,(1,(24,(x191:(List (List Jb))).map cellsOf))),(1000000001,(3,(24,(x80:(List Jb)).map cellsOf)))]⟩ (by kernel_rfl) ?_ ?_
     ·refine Hr [0] 5 (by kernel_rfl) ?_
      refine Ue (n:=4) [1,2] (by kernel_rfl) ⟨?_, ?_,trivial⟩
      ·refine ⟨_,rfl, ?_⟩
       refine Jh3 (α:=Jb) [1000000001] 50 (Uc _ r229 h128) (fun _=>by kernel_rfl) (by kernel_rfl) (by kernel_rfl) (by kernel_rfl) ?_
       refine Uu (by kernel_rfl) ?_
       refine Ue (n:=3) [2] (by kernel_rfl) ⟨?_,trivial⟩
       refine ⟨_,rfl, ?_⟩
       refine zR 1 (Uu (by kernel_rfl) ?_)
       refine Ue (n:=2) [3] (by kernel_rfl) ⟨?_,trivial⟩
       refine ⟨_,rfl, ?_⟩
       refine zR 1 (Uu (by kernel_rfl) ?_)
       refine Ue (n:=1) [4] (by kernel_rfl) ⟨?_,trivial⟩
       refine ⟨_,rfl, ?_⟩
       refine Tg (tk:=50) (N:=((r229:(List Jb)).map cellsOf).length) h129 (by kernel_rfl) (by kernel_rfl) (by kernel_rfl) ?_
       refine Uu (by kernel_rfl) ?_
       refine Hr [5] 0 (by kernel_rfl) ?_
       exact Pm (by kernel_rfl) (.of (by kernel_rfl) (by kernel_rfl))
      refine ⟨_,rfl, ?_⟩
      refine zR 1 (Uu (by kernel_rfl) ?_)
      refine Ue (n:=3) [1,3] (by kernel_rfl) ⟨?_, ?_,trivial⟩
      ·refine ⟨_,rfl, ?_⟩
       refine Jh3 (α:=Jb) [1000000001] 50 (Uc _ r229 h128) (fun _=>by kernel_rfl) (by kernel_rfl) (by kernel_rfl) (by kernel_rfl) ?_
       refine Uu (by kernel_rfl) ?_
       refine Ue (n:=2) [3] (by kernel_rfl) ⟨?_,trivial⟩
       refine ⟨_,rfl, ?_⟩
       refine zR 1 (Uu (by kernel_rfl) ?_)
       refine Ue (n:=1) [4] (by kernel_rfl) ⟨?_,trivial⟩
       refine ⟨_,rfl, ?_⟩
       refine Tg (tk:=50) (N:=((r229:(List Jb)).map cellsOf).length) h129 (by kernel_rfl) (by kernel_rfl) (by kernel_rfl) ?_
       refine Uu (by kernel_rfl) ?_
       refine Hr [5] 0 (by kernel_rfl) ?_
       exact Pm (by kernel_rfl) (.of (by kernel_rfl) (by kernel_rfl))
      refine ⟨_,rfl, ?_⟩
      refine zR 1 (Uu (by kernel_rfl) ?_)
      refine Ue (n:=2) [1] (by kernel_rfl) ⟨?_,trivial⟩
      refine ⟨_,rfl, ?_⟩
      refine Jh3 (α:=Jb) [1000000001] 50 (Uc _ r229 h128) (fun _=>by kernel_rfl) (by kernel_rfl) (by kernel_rfl) (by kernel_rfl) ?_
      refine Uu (by kernel_rfl) ?_
      refine Ue (n:=1) [4] (by kernel_rfl) ⟨?_,trivial⟩
      refine ⟨_,rfl, ?_⟩
      refine Tg (tk:=50) (N:=((r229:(List Jb)).map cellsOf).length) h129 (by kernel_rfl) (by kernel_rfl) (by kernel_rfl) ?_
      refine Uu (by kernel_rfl) ?_
      refine Hr [5] 0 (by kernel_rfl) ?_
      exact Pm (by kernel_rfl) (.of (by kernel_rfl) (by kernel_rfl))
     refine Jc (Ja (Jf (zR 2 ?_)))
     obtain ⟨r231,h130,h126⟩:=Jh h126
     refine Jbj (some 1000000) [1000000000,50] [] none (Hs _ _ r231 h130) (by kernel_rfl) (by kernel_rfl) (by kernel_rfl) (by kernel_rfl) (by kernel_rfl) ?_
     refine zE (Jc (Ja (Jf (zE (Jc ?_)))))
     rcases Jk h126 with ⟨hb,h126⟩|⟨hb,h126⟩
     ·refine zT hb (Jf (zR 3 ?_))
      obtain ⟨r232,h131,h126⟩:=Jh h126
      refine Jbj (some 1000000) [1000000000,50] [] none (hrc_d_route_finder_follow _ _ _ r232 h131) (by kernel_rfl) (by kernel_rfl) (by kernel_rfl) (by kernel_rfl) (by kernel_rfl) ?_
      refine zN (Kd ?_)
      cases h126
      exact zJ
     refine zU hb (Jj (Kd ?_))
     cases h126
     exact zJ
    rintro ⟨x221,x222,x223,x224,x225,x226,x227⟩ rfl
    have h119:=Kg h119
    refine Jf (zE ?_)
    cases h119
    exact zB
   refine zU hb (Kc (Jv ?_))
   cases h119
   exact zX
  rintro ⟨x209,x210,x211,x212,x213,x214,x215⟩ s' rfl hs
  have h87:=Kg h87
  refine Jt ?_
  cases h87
  exact Jrn hs (by kernel_rfl) (by kernel_rfl)
 rintro ⟨x154,x155,x156,x157,x158,x159,x160⟩ s' rfl hs
 have h:=Kg h
 cases h
 exact Jn2 hs (by kernel_rfl) (by kernel_rfl) (by kernel_rfl)
noncomputable def Qu (n:Nat):Jz→(List Jb)→Jg→Option Jz:=Nat.rec (fun _ _ _=>none) (fun _ ih=>Ud ih) n
theorem Dm : ∀ (n:Nat) (a0:Jz) (a1:(List Jb)) (a2:Jg) (r:Jz),Qu n a0 a1 a2=some r→Jah Go.Proofs.Tryz.prog GlS 28 (some (.cells [.str a0.l_.Name,Jo .frozen a0.l_.Sections,Jo .frozen a0.l_.Elements,Jo .frozen a0.l_.Joints,Jo .frozen a0.l_.Signals,Jo .frozen a0.l_.Balises,.ex 1000000000 1 24 (((a0.paths_:(List (List Jb))).map cellsOf).length) 0 (((a0.paths_:(List (List Jb))).map cellsOf).length)])) [(1,24,(a0.paths_:(List (List Jb))).map cellsOf),(3,24,(a1:(List Jb)).map cellsOf)] [.ref 1000000 0,.ex 1000000001 3 24 (((a1:(List Jb)).map cellsOf).length) 0 (((a1:(List Jb)).map cellsOf).length),Enc.pv a2] (.tup []) (some (.cells [.str r.l_.Name,Jo .frozen r.l_.Sections,Jo .frozen r.l_.Elements,Jo .frozen r.l_.Joints,Jo .frozen r.l_.Signals,Jo .frozen r.l_.Balises,.ex 1000000000 1 24 (((r.paths_:(List (List Jb))).map cellsOf).length) 0 (((r.paths_:(List (List Jb))).map cellsOf).length)])) [(1,24,(r.paths_:(List (List Jb))).map cellsOf)]
 | 0,_,_,_,_,h=>by cases h
 | n+1,a0,a1,a2,r,h=>Dp (Qu n) (Dm n) a0 a1 a2 r h
noncomputable def Za (a0:Jz) (a1:(List Jb)) (a2:Jg):Option Jz:=Ud (Qu Hw) a0 a1 a2
theorem Pv (a0:Jz) (a1:(List Jb)) (a2:Jg) (r:Jz) (h:Za a0 a1 a2=some r):Jah Go.Proofs.Tryz.prog GlS 28 (some (.cells [.str a0.l_.Name,Jo .frozen a0.l_.Sections,Jo .frozen a0.l_.Elements,Jo .frozen a0.l_.Joints,Jo .frozen a0.l_.Signals,Jo .frozen a0.l_.Balises,.ex 1000000000 1 24 (((a0.paths_:(List (List Jb))).map cellsOf).length) 0 (((a0.paths_:(List (List Jb))).map cellsOf).length)])) [(1,24,(a0.paths_:(List (List Jb))).map cellsOf),(3,24,(a1:(List Jb)).map cellsOf)] [.ref 1000000 0,.ex 1000000001 3 24 (((a1:(List Jb)).map cellsOf).length) 0 (((a1:(List Jb)).map cellsOf).length),Enc.pv a2] (.tup []) (some (.cells [.str r.l_.Name,Jo .frozen r.l_.Sections,Jo .frozen r.l_.Elements,Jo .frozen r.l_.Joints,Jo .frozen r.l_.Signals,Jo .frozen r.l_.Balises,.ex 1000000000 1 24 (((r.paths_:(List (List Jb))).map cellsOf).length) 0 (((r.paths_:(List (List Jb))).map cellsOf).length)])) [(1,24,(r.paths_:(List (List Jb))).map cellsOf)]:=Dp (Qu Hw) (Dm Hw) a0 a1 a2 r h
/-! rail.Need -/
noncomputable def Lq (a0:Int) (a1:Int) (a2:Int):Int→Option (Int⊕(Unit⊕(Int×Bool))):=fun x2 =>
 bif decide (x2<10) then (
  (ixO Kj x2).bind fun x4 =>
  bif (((decide (x4.kind_=a0))&&(decide (x4.in_=a1)))&&(decide (x4.out_=a2))) then (
   some (.inr (.inr (x4.need_,true)))
  ) else (
   some (.inl (w64 (x2+1)))
  )
 ) else (
  some (.inr (.inl ()))
 )
noncomputable def Mj (a0:Int) (a1:Int) (a2:Int):Option (Int×Bool) :=
 onInl (α:=Unit) (β:=(Int×Bool)) (Kl (Lq a0 a1 a2) 0) fun _ =>
 some (0,false)
theorem Jh0 (a0:Int) (a1:Int) (a2:Int) (r:(Int×Bool)) (h:Mj a0 a1 a2=some r):Km Go.Proofs.Tryz.prog GlS 92 [Enc.pv a0,Enc.pv a1,Enc.pv a2] (.tup [Enc.pv r.1,Enc.pv r.2]):=by
 unfold Mj at h
 refine Jr Go.Proofs.Tryz.func92 (by rfl) rfl Go.Proofs.Tryz.ntmps92 (by rfl) rfl ?_
 refine Ja (Jf (zE (Jc (Ja (Ja (Jf (zE (Jc (Jn ?_)))))))))
 obtain ⟨o6,h6,h⟩:=Kq h
 refine Ki 33 0 (fun x2=>⟨[(0,.int .i64 a0),(1,.int .i64 a1),(2,.int .i64 a2),(10,.agg (Kj.flatMap cellsOf)),(11,.int .i64 x2)],[],[],[]⟩) (fun (_:Unit)=>⟨[],[],[],[]⟩) h6 (by kernel_rfl) (fun _=>by kernel_rfl) ?_ ?_
 ·rintro x2 oh5 h5
  unfold Lq at h5
  refine Ja (Jf (zE (Jc (Ja ?_))))
  rcases Jk h5 with ⟨hb,h5⟩|⟨hb,h5⟩
  ·refine zT hb (Jj (Jc (Ja (Jn (Ja (Jf ?_))))))
   obtain ⟨x4,h7,h5⟩:=Jh h5
   refine Jvt (tab:=Kj) h7 true 10 4 (by kernel_rfl) (by kernel_rfl) (by kernel_rfl) (by kernel_rfl) ?_
   refine zE (Jc (Ja (Jf (zR 5 ?_))))
   refine Qb 5 23 ((decide (x4.kind_=a0))&&(decide (x4.in_=a1))) (fun x hx=>?_) ?_
   ·rcases Bq hx with ⟨hb,hx⟩|⟨hb,hx⟩
    ·refine zS 18 hb ?_
     subst hx
     exact zF
    refine zS 18 hb ?_
    subst hx
    exact zF
   refine zR 1 ?_
   refine Qb 5 29 (((decide (x4.kind_=a0))&&(decide (x4.in_=a1)))&&(decide (x4.out_=a2))) (fun x hx=>?_) ?_
   ·rcases Bq hx with ⟨hb,hx⟩|⟨hb,hx⟩
    ·refine zS 24 hb ?_
     subst hx
     exact zF
    refine zS 24 hb ?_
    subst hx
    exact zF
   refine zN (Jc ?_)
   rcases Jk h5 with ⟨hb,h5⟩|⟨hb,h5⟩
   ·refine zT hb (Ja (Jf (zE (Jc (Jp (Jm (Ji ?_)))))))
    cases h5
    refine Kb fun he=>?_
    subst he
    have h8:=Ku h
    refine Jm (Ji ?_)
    cases h8
    exact zQ
   refine zU hb (Jj (Kd (Jc (Jf (zE ?_)))))
   cases h5
   exact zB
  refine zU hb (Kc (Jv ?_))
  cases h5
  exact zX
 rintro _ s' rfl hs
 have h:=Kg h
 refine Jt (Jc (Ke hs (Ja (Jf (zE (Jc (Jp ?_)))))))
 cases h
 exact zQ
/-! walk.possible -/
noncomputable def Zh (a0:Jd) (a1:Jb):Option (Int×Bool) :=
 (Yj a0 a1.El).bind fun r1 =>
 bif (!r1) then (
  some (0,false)
 ) else (
  (ixO a0.Elements a1.El).bind fun x2 =>
  (Mj x2.Kind a1.In a1.Out).bind fun r3 =>
  some (r3.1,r3.2)
 )
theorem Og (a0:Jd) (a1:Jb) (r:(Int×Bool)) (h:Zh a0 a1=some r):Km Go.Proofs.Tryz.prog GlS 48 [Enc.pv a0,Enc.pv a1] (.tup [Enc.pv r.1,Enc.pv r.2]):=by
 unfold Zh at h
 refine Jr Go.Proofs.Tryz.func48 (by rfl) rfl Go.Proofs.Tryz.ntmps48 (by rfl) rfl ?_
 refine Ja (Jf (zE (Jc (Ja (Ja (Jf (zR 3 ?_)))))))
 obtain ⟨r1,h1,h⟩:=Jh h
 refine Ju (Eg _ _ r1 h1) (by kernel_rfl) (by kernel_rfl) (zE (Jc ?_))
 rcases Jk h with ⟨hb,h⟩|⟨hb,h⟩
 ·refine zT hb (Ja (Jf (zE (Jc (Jp (Ji ?_))))))
  cases h
  exact zQ
 refine zU hb (Jj (Jc (Ja (Kv (by kernel_rfl) (by kernel_rfl) (zR 4 ?_)))))
 obtain ⟨x2,h2,h⟩:=Jh h
 refine zI h2 (zR 6 ?_)
 obtain ⟨r3,h3,h⟩:=Jh h
 refine Ju (Jh0 _ _ _ r3 h3) (by kernel_rfl) (by kernel_rfl) (zE (Jc (Jp ?_)))
 cases h
 exact zQ
/-! cmp.isNaN[int] -/
noncomputable def Cg (a0:Int):Option Bool :=
 some (!(decide (a0=a0)))
theorem Ob (a0:Int) (r:Bool) (h:Cg a0=some r):Km Go.Proofs.Tryz.prog GlS 95 [Enc.pv a0] (Enc.pv r):=by
 unfold Cg at h
 refine Jr Go.Proofs.Tryz.func95 (by rfl) rfl Go.Proofs.Tryz.ntmps95 (by rfl) rfl ?_
 refine Ja (Jf (zE (Jc (Ja (Jf (zE (Jc (Jp ?_))))))))
 cases h
 exact zQ
/-! cmp.Compare[int] -/
noncomputable def Wu (a0:Int) (a1:Int):Option Int :=
 (Cg a0).bind fun r1 =>
 (Cg a1).bind fun r2 =>
 bif r1 then (
  bif r2 then (
   some 0
  ) else (
   some (-1)
  )
 ) else (
  bif r2 then (
   some 1
  ) else (
   bif decide (a0<a1) then (
    some (-1)
   ) else (
    bif decide (a1<a0) then (
     some 1
    ) else (
     some 0
    )
   )
  )
 )
theorem Mf (a0:Int) (a1:Int) (r:Int) (h:Wu a0 a1=some r):Km Go.Proofs.Tryz.prog GlS 52 [Enc.pv a0,Enc.pv a1] (Enc.pv r):=by
 unfold Wu at h
 refine Jr Go.Proofs.Tryz.func52 (by rfl) rfl Go.Proofs.Tryz.ntmps52 (by rfl) rfl ?_
 refine Ja (Jf (zE (Jc (Ja (Jf (zR 1 ?_))))))
 obtain ⟨r1,h1,h⟩:=Jh h
 refine Ju (Ob _ r1 h1) (by kernel_rfl) (by kernel_rfl) (zE (Jc (Ja (Jf (zR 1 ?_)))))
 obtain ⟨r2,h2,h⟩:=Jh h
 refine Ju (Ob _ r2 h2) (by kernel_rfl) (by kernel_rfl) (zE (Jc (Ja (Ja (Jf (zE (Jc ?_)))))))
 rcases Jk h with ⟨hb,h⟩|⟨hb,h⟩
 ·refine zT hb (Ja (Ja (Jf (zE (Jc ?_)))))
  rcases Jk h with ⟨hb,h⟩|⟨hb,h⟩
  ·refine zT hb (Ja (Jf (zE (Jc (Jp (Ji (Ji ?_)))))))
   cases h
   exact zQ
  refine zU hb (Jj (Jc (Ja (Jf (zE (Jc (Jp (Ji ?_))))))))
  cases h
  exact zQ
 refine zU hb (Jj (Jc (Ja (Ja (Jf (zE (Jc ?_)))))))
 rcases Jk h with ⟨hb,h⟩|⟨hb,h⟩
 ·refine zT hb (Ja (Jf (zE (Jc (Jp (Ji ?_))))))
  cases h
  exact zQ
 refine zU hb (Jj (Jc (Ja (Ja (Jf (zE (Jc ?_)))))))
 rcases Jk h with ⟨hb,h⟩|⟨hb,h⟩
 ·refine zT hb (Ja (Jf (zE (Jc (Jp (Ji ?_))))))
  cases h
  exact zQ
 refine zU hb (Jj (Jc (Ja (Ja (Jf (zE (Jc ?_)))))))
 rcases Jk h with ⟨hb,h⟩|⟨hb,h⟩
 ·refine zT hb (Ja (Jf (zE (Jc (Jp (Ji ?_))))))
  cases h
  exact zQ
 refine zU hb (Jj (Jc (Ja (Jf (zE (Jc (Jp ?_)))))))
 cases h
 exact zQ
theorem Md (a b:Int):Wu a b=some (if a<b then -1 else if b<a then 1 else 0):=by
 unfold Wu Cg
 by_cases h1:a<b
 ·simp [h1]
 ·by_cases h2:b<a <;> simp [h1,h2]
/-! cmp.Or[int] -/
noncomputable def Qz (a0:(List Int)):Int→Option (Int⊕(Unit⊕Int)):=fun x2 =>
 bif decide (x2<((a0.length:Nat):Int)) then (
  (ixO a0 x2).bind fun x4 =>
  bif (!(decide (x4=0))) then (
   some (.inr (.inr x4))
  ) else (
   some (.inl (w64 (x2+1)))
  )
 ) else (
  some (.inr (.inl ()))
 )
noncomputable def Ir (a0:(List Int)):Option Int :=
 onInl (α:=Unit) (β:=Int) (Kl (Qz a0) 0) fun _ =>
 some 0
theorem Jgx (a0:(List Int)) (r:Int) (h:Ir a0=some r):Km Go.Proofs.Tryz.prog GlS 51 [Enc.pv a0] (Enc.pv r):=by
 unfold Ir at h
 refine Jr Go.Proofs.Tryz.func51 (by rfl) rfl Go.Proofs.Tryz.ntmps51 (by rfl) rfl ?_
 refine Ja (Jf (zE (Jc (Ja (Jf (zE (Jc (Ja (Ja (Jf (zR 1 ?_)))))))))))
 refine Kf (L:=(a0:(List Int))) (by kernel_rfl) ?_
 refine zE (Jc (Jn ?_))
 obtain ⟨o6,h6,h⟩:=Kq h
 refine Ki 18 0 (fun x2=>⟨[(3,.int .i64 0),(6,Jo .frozen (a0:(List Int))),(7,.int .i64 ((a0.length:Nat):Int)),(8,.int .i64 x2)],[],[],[]⟩) (fun (_:Unit)=>⟨[(3,.int .i64 0)],[],[],[]⟩) h6 (by kernel_rfl) (fun _=>by kernel_rfl) ?_ ?_
 ·rintro x2 oh5 h5
  unfold Qz at h5
  refine Ja (Jf (zE (Jc (Ja ?_))))
  rcases Jk h5 with ⟨hb,h5⟩|⟨hb,h5⟩
  ·refine zT hb (Jj (Jc (Ja (Jn (Ja (Jf ?_))))))
   obtain ⟨x4,h7,h5⟩:=Jh h5
   refine zI h7 (zE (Jc (Ja (Jf (zE (Jc ?_))))))
   rcases Jk h5 with ⟨hb,h5⟩|⟨hb,h5⟩
   ·refine zT hb (Ja (Jf (zE (Jc (Jp (Jm (Ji ?_)))))))
    cases h5
    refine Kb fun he=>?_
    subst he
    have h8:=Ku h
    refine Jm (Ji ?_)
    cases h8
    exact zQ
   refine zU hb (Jj (Kd (Jc (Jf (zE ?_)))))
   cases h5
   exact zB
  refine zU hb (Kc (Jv ?_))
  cases h5
  exact zX
 rintro _ s' rfl hs
 have h:=Kg h
 refine Jt (Jc (Ke hs (Ja (Jf (zE (Jc (Jp ?_)))))))
 cases h
 exact zQ
theorem Je3 (a b:Int):Ir [a,b]=some (if a=0 then b else a):=by
 unfold Ir
 by_cases h1:a=0
 ·subst h1
  have e0:Qz [0,b] 0=some (.inl 1):=by simp [Qz,ixO,w64,IntKind.wrap,IntKind.bits,IntKind.signed]
  rw [Rr e0]
  by_cases h2:b=0
  ·have e1:Qz [0,b] 1=some (.inl 2):=by simp [Qz,ixO,w64,IntKind.wrap,IntKind.bits,IntKind.signed,h2]
   have e2:Qz [0,b] 2=some (.inr (.inl ())):=by simp [Qz]
   rw [Rr e1,En e2]
   simp [onInl,Du,h2]
  ·have e1:Qz [0,b] 1=some (.inr (.inr b)):=by simp [Qz,ixO,h2]
   rw [En e1]
   simp [onInl,Du]
 ·have e0:Qz [a,b] 0=some (.inr (.inr a)):=by simp [Qz,ixO,h1]
  rw [En e0]
  simp [onInl,Du,h1]
/-! walk.Settings$1 -/
noncomputable def Da (a0:Je) (a1:Je):Option Int :=
 (Wu a0.El a1.El).bind fun r1 =>
 (Wu a0.Pos a1.Pos).bind fun r2 =>
 (Ir [r1,r2]).bind fun r3 =>
 some r3
theorem Jau (a0:Je) (a1:Je) (r:Int) (h:Da a0 a1=some r):Km Go.Proofs.Tryz.prog GlS 50 [Enc.pv a0,Enc.pv a1] (Enc.pv r):=by
 unfold Da at h
 refine Jr Go.Proofs.Tryz.func50 (by rfl) rfl Go.Proofs.Tryz.ntmps50 (by rfl) rfl ?_
 refine Ja (Jf (zE (Jc (Ja (Kv (by kernel_rfl) (by kernel_rfl) (zR 4 ?_))))))
 obtain ⟨r1,h1,h⟩:=Jh h
 refine Ju (Mf _ _ r1 h1) (by kernel_rfl) (by kernel_rfl) (zR 4 ?_)
 obtain ⟨r2,h2,h⟩:=Jh h
 refine Ju (Mf _ _ r2 h2) (by kernel_rfl) (by kernel_rfl) (zR 1 ?_)
 obtain ⟨r3,h3,h⟩:=Jh h
 refine Ju (Jgx _ r3 h3) (by kernel_rfl) (by kernel_rfl) (zE (Jc (Jp ?_)))
 cases h
 exact zQ
def Qi (x y:Je):Int:=if x.El<y.El then -1 else if y.El<x.El then 1 else if x.Pos<y.Pos then -1 else if y.Pos<x.Pos then 1 else 0
theorem Wg (x y:Je):Go.Proofs.ltOf Qi x y=decide (x.El<y.El∨(x.El=y.El∧x.Pos<y.Pos)):=by
 unfold Go.Proofs.ltOf Qi
 by_cases h1:x.El<y.El
 ·simp [h1]
 ·by_cases h2:y.El<x.El
  ·have:x.El≠y.El:=by omega
   simp [h1,h2,this]
  ·have e:x.El=y.El:=by omega
   by_cases h3:x.Pos<y.Pos
   ·simp [e,h3]
   ·by_cases h4:y.Pos<x.Pos <;> simp [e,h3,h4]
theorem Xm : Go.Sort.SWO (Go.Proofs.ltOf Qi) where
 irrefl x:=by rw [Wg]; simp
 trans x y z h1 h2:=by rw [Wg] at *; simp only [decide_eq_true_eq] at *; omega
 ntrans x y z h1 h2:=by rw [Wg] at *; simp only [decide_eq_false_iff_not] at *; omega
theorem Xp (x y:Je) (h1:Go.Proofs.ltOf Qi x y=false) (h2:Go.Proofs.ltOf Qi y x=false):x=y:=by
 rw [Wg] at h1 h2
 simp only [decide_eq_false_iff_not] at h1 h2
 obtain ⟨a,b⟩:=x
 obtain ⟨c,d⟩:=y
 simp only at h1 h2
 have e1:a=c:=by omega
 have e2:b=d:=by omega
 rw [e1,e2]
theorem Ro (x y:Je):Da x y=some (Qi x y):=by
 unfold Da
 rw [Md,Md]
 simp only [Option.bind_some,Je3]
 unfold Qi
 by_cases h1:x.El<y.El
 ·simp [h1]
 ·by_cases h2:y.El<x.El
  ·simp [h1,h2]
  ·simp [h1,h2]
/-! slices.SortFunc[[]api.Setting,api.Setting] (the shelf's contract) -/
noncomputable def Qq (a0:(List Je)):Option (List Je):=some (a0.mergeSort fun x y => !(Go.Proofs.ltOf Qi y x))
theorem Zf (a0:(List Je)) (r:(List Je)) (h:Qq a0=some r):Jfq Go.Proofs.Tryz.prog GlS 49 2 16 (a0.map cellsOf) [.fn 50 []] none (r.map cellsOf):=by
 cases h
 exact Jo5 (α:=Je) Go.Proofs.Tryz.sort49 Go.Proofs.Tryz.isAgg83 Go.Proofs.Tryz.sizeOf83 (fun _=>rfl) (fun _=>rfl) (fun _=>rfl) (by decide) Qi Xm Xp 50 (fun x y=>Jau x y _ (Ro x y)) ⟨_,Go.Proofs.Tryz.func49,rfl,rfl⟩ a0
/-! slices.Compact[[]api.Setting,api.Setting] -/
noncomputable def Qw (a0:(List Je)) (p140:Nat×Nat):(Int×Int×(List Je))→Option ((Int×Int×(List Je))⊕(((List Je)×Int)⊕(Int⊕(Unit⊕((List Je)×Nat))))):=fun (x159,x160,x161) =>
 bif decide (x160<(((p140.2 - p140.1):Nat):Int)) then (
  onInl (α:=((List Je)×Int)) (β:=((Int×Int×(List Je))⊕(((List Je)×Int)⊕(Int⊕(Unit⊕((List Je)×Nat)))))) (
   (Rl (0+p140.1) (p140.2 - p140.1) x160).bind fun j192 =>
   (Pw x161 (((a0:(List Je)).map cellsOf).length) j192).bind fun x193 =>
   (Rl (0+p140.1) (p140.2 - p140.1) (w64 (x160 - 1))).bind fun j194 =>
   (Pw x161 (((a0:(List Je)).map cellsOf).length) j194).bind fun x195 =>
   bif (!(Ua x193 x195)) then (
    (Rl (0+p140.1) (p140.2 - p140.1) x160).bind fun j196 =>
    (Pw x161 (((a0:(List Je)).map cellsOf).length) j196).bind fun x197 =>
    (Rl 0 (((a0:(List Je)).map cellsOf).length) x159).bind fun j198 =>
    (Pw x161 (((a0:(List Je)).map cellsOf).length) j198).bind fun x199 =>
    some (.inl ((x161.set j198 x197),w64 (x159+1)))
   ) else (
    some (.inl (x161,x159))
   )
  ) fun (x190,x191) =>
  some (.inl (x191,w64 (x160+1),x190))
 ) else (
  some (.inr (.inl (x161,x159)))
 )
noncomputable def Uo (a0:(List Je)):Int→Option (Int⊕(Unit⊕((List Je)×Nat))):=fun x68 =>
 bif decide (x68<((((a0:(List Je)).map cellsOf).length:Nat):Int)) then (
  (Rl 0 (((a0:(List Je)).map cellsOf).length) x68).bind fun j136 =>
  (Pw a0 (((a0:(List Je)).map cellsOf).length) j136).bind fun x137 =>
  (Rl 0 (((a0:(List Je)).map cellsOf).length) (w64 (x68 - 1))).bind fun j138 =>
  (Pw a0 (((a0:(List Je)).map cellsOf).length) j138).bind fun x139 =>
  bif Ua x137 x139 then (
   (Jjq (((a0:(List Je)).map cellsOf).length) (some x68) none).bind fun p140 =>
   onInl (α:=((List Je)×Int)) (β:=(Int⊕(Unit⊕((List Je)×Nat)))) (Kl (Qw a0 p140) (x68,1,a0)) fun (x180,x181) =>
   (Jjq (((a0:(List Je)).map cellsOf).length) (some x181) none).bind fun p200 =>
   (Jni x180 (((a0:(List Je)).map cellsOf).length) (0+p200.1) (p200.2 - p200.1) ((Je.mk 0 0):Je)).bind fun x201 =>
   (Jnb (((a0:(List Je)).map cellsOf).length) x181).bind fun m202 =>
   some (.inr (.inr (x201,m202)))
  ) else (
   some (.inl (w64 (x68+1)))
  )
 ) else (
  some (.inr (.inl ()))
 )
noncomputable def Qm (a0:(List Je)):Option ((List Je)×Nat) :=
 bif decide (((((a0:(List Je)).map cellsOf).length:Nat):Int)<2) then (
  some (a0,((a0:(List Je)).map cellsOf).length)
 ) else (
  onInl (α:=Unit) (β:=((List Je)×Nat)) (Kl (Uo a0) 1) fun _ =>
  some (a0,((a0:(List Je)).map cellsOf).length)
 )
theorem It (a0:(List Je)) (r:((List Je)×Nat)) (h:Qm a0=some r):Jfq Go.Proofs.Tryz.prog GlS 53 2 16 (a0.map cellsOf) [] (some r.2) (r.1.map cellsOf):=by
 unfold Qm at h
 refine Jjm Go.Proofs.Tryz.func53 (by rfl) rfl Go.Proofs.Tryz.ntmps53 (by rfl) rfl ?_
 refine Ja (Jf (zE (Jc (Ja (Ja (Jf (zE (Jc ?_))))))))
 rcases Jk h with ⟨hb,h⟩|⟨hb,h⟩
 ·refine zT hb (Ja (Jf (zE (Jc (Jp (Ji ?_))))))
  cases h
  exact Jlg (by kernel_rfl)
 refine zU hb (Jj (Jc (Ja (Ja (Jf (zE (Jc (Jn ?_))))))))
 obtain ⟨o126,h126,h⟩:=Kq h
 refine Ki 61 0 (fun x68=>⟨[(0,.ex 1000000000 2 16 (((a0:(List Je)).map cellsOf).length) 0 (((a0:(List Je)).map cellsOf).length)),(3,.int .i64 x68)],[],[(1000000000,(((a0:(List Je)).map cellsOf).length,0))],[(1000000000,(2,(16,(a0:(List Je)).map cellsOf)))]⟩) (fun (_:Unit)=>⟨[(0,.ex 1000000000 2 16 (((a0:(List Je)).map cellsOf).length) 0 (((a0:(List Je)).map cellsOf).length))],[],[(1000000000,(((a0:(List Je)).map cellsOf).length,0))],[(1000000000,(2,(16,(a0:(List Je)).map cellsOf)))]⟩) h126 (by kernel_rfl) (fun _=>by kernel_rfl) ?_ ?_
 ·rintro x68 oh125 h125
  unfold Uo at h125
  refine Ja (Ja (Jf (zE (Jc ?_))))
  rcases Jk h125 with ⟨hb,h125⟩|⟨hb,h125⟩
  ·refine zT hb (Jj (Jc (Ja (Jn (Ja (Kv (by kernel_rfl) (by kernel_rfl) (zR 2 ?_)))))))
   obtain ⟨j136,h127,h125⟩:=Jh h125
   refine Xu (tk:=1000000000) (k:=2) (N:=((a0:(List Je)).map cellsOf).length) h127 (by kernel_rfl) ?_
   obtain ⟨x137,h128,h125⟩:=Jh h125
   refine Jb3 (L:=(a0:(List Je))) (N:=((a0:(List Je)).map cellsOf).length) (j:=j136) (y:=x137) (v:=Enc.pv x137) h128 true 2 0 (by kernel_rfl) (by kernel_rfl) ?_
   refine zR 3 ?_
   obtain ⟨j138,h129,h125⟩:=Jh h125
   refine Xu (tk:=1000000000) (k:=2) (N:=((a0:(List Je)).map cellsOf).length) h129 (by kernel_rfl) ?_
   obtain ⟨x139,h130,h125⟩:=Jh h125
   refine Jb3 (L:=(a0:(List Je))) (N:=((a0:(List Je)).map cellsOf).length) (j:=j138) (y:=x139) (v:=Enc.pv x139) h130 true 2 0 (by kernel_rfl) (by kernel_rfl) ?_
   refine zE (Jc ?_)
   rcases Jk h125 with ⟨hb,h125⟩|⟨hb,h125⟩
   ·refine zT hb (Ja (Jf (zR 2 ?_)))
    obtain ⟨p140,h131,h125⟩:=Jh h125
    refine Jsr (tk:=1000000000) (k:=2) (b:=16) (N:=((a0:(List Je)).map cellsOf).length) (o:=0) (lo:=(some x68)) (hi:=none) h131 (by kernel_rfl) ?_
    refine zE (Jc (Ja (Ja (Jf (zE (Jc (Jn ?_)))))))
    obtain ⟨o167,h167,h125⟩:=Kq h125
    refine Ki 61 2 (fun (x159,x160,x161)=>⟨[(0,.ex 1000000000 2 16 (((a0:(List Je)).map cellsOf).length) 0 (((a0:(List Je)).map cellsOf).length)),(3,.int .i64 x159),(4,.ex 1000000000 2 16 (((a0:(List Je)).map cellsOf).length) (0+p140.1) (p140.2 - p140.1)),(5,.int .i64 x160)],[],[(1000000000,(((a0:(List Je)).map cellsOf).length,0))],[(1000000000,(2,(16,(x161:(List Je)).map cellsOf)))]⟩) (fun (x180,x181)=>⟨[(0,.ex 1000000000 2 16 (((a0:(List Je)).map cellsOf).length) 0 (((a0:(List Je)).map cellsOf).length)),(3,.int .i64 x181)],[],[(1000000000,(((a0:(List Je)).map cellsOf).length,0))],[(1000000000,(2,(16,(x180:(List Je)).map cellsOf)))]⟩) h167 (by kernel_rfl) (fun _=>by kernel_rfl) ?_ ?_
    ·rintro ⟨x159,x160,x161⟩ oh166 h166
     unfold Qw at h166
     refine Ja (Ja (Jf (zE (Jc ?_))))
     rcases Jk h166 with ⟨hb,h166⟩|⟨hb,h166⟩
     ·refine zT hb (Jj (Jc ?_))
      obtain ⟨o176,h176,h166⟩:=Kq h166
      refine Vx (o:=o176) 61 (fun (x190,x191)=>⟨[(0,.ex 1000000000 2 16 (((a0:(List Je)).map cellsOf).length) 0 (((a0:(List Je)).map cellsOf).length)),(3,.int .i64 x191),(4,.ex 1000000000 2 16 (((a0:(List Je)).map cellsOf).length) (0+p140.1) (p140.2 - p140.1)),(5,.int .i64 x160)],[],[(1000000000,(((a0:(List Je)).map cellsOf).length,0))],[(1000000000,(2,(16,(x190:(List Je)).map cellsOf)))]⟩) ?_ ?_
      ·refine Jn (Ja (Kv (by kernel_rfl) (by kernel_rfl) (zR 2 ?_)))
       obtain ⟨j192,h177,h176⟩:=Jh h176
       refine Xu (tk:=1000000000) (k:=2) (N:=((a0:(List Je)).map cellsOf).length) h177 (by kernel_rfl) ?_
       obtain ⟨x193,h178,h176⟩:=Jh h176
       refine Jb3 (L:=(x161:(List Je))) (N:=((a0:(List Je)).map cellsOf).length) (j:=j192) (y:=x193) (v:=Enc.pv x193) h178 true 2 0 (by kernel_rfl) (by kernel_rfl) ?_
       refine zR 3 ?_
       obtain ⟨j194,h179,h176⟩:=Jh h176
       refine Xu (tk:=1000000000) (k:=2) (N:=((a0:(List Je)).map cellsOf).length) h179 (by kernel_rfl) ?_
       obtain ⟨x195,h180,h176⟩:=Jh h176
       refine Jb3 (L:=(x161:(List Je))) (N:=((a0:(List Je)).map cellsOf).length) (j:=j194) (y:=x195) (v:=Enc.pv x195) h180 true 2 0 (by kernel_rfl) (by kernel_rfl) ?_
       refine zE (Jc ?_)
       rcases Jk h176 with ⟨hb,h176⟩|⟨hb,h176⟩
       ·refine zT hb (Ja (Jf (zR 4 ?_)))
        obtain ⟨j196,h181,h176⟩:=Jh h176
        refine Xu (tk:=1000000000) (k:=2) (N:=((a0:(List Je)).map cellsOf).length) h181 (by kernel_rfl) ?_
        obtain ⟨x197,h182,h176⟩:=Jh h176
        refine Jb3 (L:=(x161:(List Je))) (N:=((a0:(List Je)).map cellsOf).length) (j:=j196) (y:=x197) (v:=Enc.pv x197) h182 true 2 0 (by kernel_rfl) (by kernel_rfl) ?_
        obtain ⟨j198,h183,h176⟩:=Jh h176
        refine Xu (tk:=1000000000) (k:=2) (N:=((a0:(List Je)).map cellsOf).length) h183 (by kernel_rfl) ?_
        obtain ⟨x199,h184,h176⟩:=Jh h176
        refine Jw0 (L:=(x161:(List Je))) (tk:=1000000000) (N:=((a0:(List Je)).map cellsOf).length) (j:=j198) (y:=x199) (y':=x197) h184 0 2 [.int .i64 x197.El,.int .i64 x197.Pos] (by kernel_rfl) (by kernel_rfl) ?_
        refine zN (Jc (Jf (zE (Kd ?_))))
        cases h176
        exact zJ
       refine zU hb (Jj (Kd ?_))
       cases h176
       exact zJ
      rintro ⟨x190,x191⟩ rfl
      have h166:=Kg h166
      refine Jf (zE ?_)
      cases h166
      exact zB
     refine zU hb (Kc (Jv ?_))
     cases h166
     exact zX
    rintro ⟨x180,x181⟩ s' rfl hs
    have h125:=Kg h125
    refine Jt (Jc (Ke hs (Ja (Jf (zR 2 ?_)))))
    obtain ⟨p200,h185,h125⟩:=Jh h125
    refine Jsr (tk:=1000000000) (k:=2) (b:=16) (N:=((a0:(List Je)).map cellsOf).length) (o:=0) (lo:=(some x181)) (hi:=none) h185 (by kernel_rfl) ?_
    obtain ⟨x201,h186,h125⟩:=Jh h125
    refine Jwa (L:=(x180:(List Je))) (tk:=1000000000) (N:=((a0:(List Je)).map cellsOf).length) (z:=((Je.mk 0 0):Je)) h186 (by kernel_rfl) (by kernel_rfl) (by kernel_rfl) rfl ?_
    refine zN (Jc (Ja (Jf (zR 2 ?_))))
    obtain ⟨m202,h187,h125⟩:=Jh h125
    refine Jwj (tk:=1000000000) (k:=2) (b:=16) (N:=((a0:(List Je)).map cellsOf).length) (o:=0) h187 (by kernel_rfl) ?_
    refine zE (Jc (Jp (Jm (Ji ?_))))
    cases h125
    refine Kb fun he=>?_
    subst he
    have h188:=Ku h
    refine Jm (Ji ?_)
    cases h188
    exact Jlg (by kernel_rfl)
   refine zU hb (Jj (Kd (Jc (Jf (zE ?_)))))
   cases h125
   exact zB
  refine zU hb (Kc (Jv ?_))
  cases h125
  exact zX
 rintro _ s' rfl hs
 have h:=Kg h
 refine Jt (Jc (Ke hs (Ja (Jf (zE (Jc (Jp ?_)))))))
 cases h
 exact Jlg (by kernel_rfl)
/-! walk.Settings -/
noncomputable def Zw (a0:Jd) (a1:(List Jb)):(Int×(List Je))→Option ((Int×(List Je))⊕((List Je)⊕(List Je))):=fun (x24,x25) =>
 bif decide (x24<((a1.length:Nat):Int)) then (
  onInl (α:=(List Je)) (β:=((Int×(List Je))⊕((List Je)⊕(List Je)))) (
   (ixO a1 x24).bind fun x44 =>
   (Zh a0 x44).bind fun r45 =>
   ((bif r45.2 then (
    (ixO a0.Elements x44.El).bind fun x47 =>
    some (decide (x47.Kind=2))
   ) else some false):Option Bool).bind fun b46 =>
   bif b46 then (
    (Vv x25 [(Je.mk x44.El r45.1)]).bind fun x48 =>
    some (.inl x48)
   ) else (
    some (.inl x25)
   )
  ) fun x43 =>
  some (.inl (w64 (x24+1),x43))
 ) else (
  some (.inr (.inl x25))
 )
noncomputable def Zm (a0:Jd) (a1:(List Jb)):Option (List Je) :=
 onInl (α:=(List Je)) (β:=(List Je)) (Kl (Zw a0 a1) (0,([]:(List Je)))) fun x37 =>
 (Qq x37).bind fun r49 =>
 (Qm r49).bind fun r50 =>
 some (r50.1.take r50.2)
theorem Oh (a0:Jd) (a1:(List Jb)) (r:(List Je)) (h:Zm a0 a1=some r):Km Go.Proofs.Tryz.prog GlS 19 [Enc.pv a0,Enc.pv a1] (Enc.pv r):=by
 unfold Zm at h
 refine Jr Go.Proofs.Tryz.func19 (by rfl) rfl Go.Proofs.Tryz.ntmps19 (by rfl) rfl ?_
 refine Ja (Jf (zE (Jc (Ja (Jf (zE (Jc (Ja (Ja (Jf (zR 1 ?_)))))))))))
 refine Kf (L:=(a1:(List Jb))) (by kernel_rfl) ?_
 refine zE (Jc (Jn (Ke (Jn0 5 100005 2 16 (by kernel_rfl) (by kernel_rfl)) ?_)))
 obtain ⟨o35,h35,h⟩:=Kq h
 refine Ki 45 0 (fun (x24,x25)=>⟨[(2,.ref 2 0),(5,.ex 100005 2 16 (((x25:(List Je)).map cellsOf).length) 0 (((x25:(List Je)).map cellsOf).length)),(10,Jo .frozen (a1:(List Jb))),(11,.int .i64 ((a1.length:Nat):Int)),(12,.int .i64 x24)],[(2,.cells (cellsOf a0))],[(100005,(((x25:(List Je)).map cellsOf).length,0))],[(100005,(2,(16,(x25:(List Je)).map cellsOf)))]⟩) (fun x37=>⟨[(5,.ex 100005 2 16 (((x37:(List Je)).map cellsOf).length) 0 (((x37:(List Je)).map cellsOf).length))],[],[(100005,(((x37:(List Je)).map cellsOf).length,0))],[(100005,(2,(16,(x37:(List Je)).map cellsOf)))]⟩) h35 (by kernel_rfl) (fun _=>by kernel_rfl) ?_ ?_
 ·rintro ⟨x24,x25⟩ oh34 h34
  unfold Zw at h34
  refine Ja (Jf (zE (Jc (Ja ?_))))
  rcases Jk h34 with ⟨hb,h34⟩|⟨hb,h34⟩
  ·refine zT hb (Jj (Jc ?_))
   obtain ⟨o41,h41,h34⟩:=Kq h34
   refine Vx (o:=o41) 45 (fun x43=>⟨[(2,.ref 2 0),(5,.ex 100005 2 16 (((x43:(List Je)).map cellsOf).length) 0 (((x43:(List Je)).map cellsOf).length)),(10,Jo .frozen (a1:(List Jb))),(11,.int .i64 ((a1.length:Nat):Int)),(12,.int .i64 x24)],[(2,.cells (cellsOf a0))],[(100005,(((x43:(List Je)).map cellsOf).length,0))],[(100005,(2,(16,(x43:(List Je)).map cellsOf)))]⟩) ?_ ?_
   ·refine Jn (Ja (Jf ?_))
    obtain ⟨x44,h42,h41⟩:=Jh h41
    refine zI h42 (zE (Jc (Ja (Jf (zR 2 ?_)))))
    obtain ⟨r45,h43,h41⟩:=Jh h41
    refine Ju (Og _ _ r45 h43) (by kernel_rfl) (by kernel_rfl) (zE (Jc (Ja (Jf ?_))))
    obtain ⟨b46,h44,h41⟩:=Jh h41
    refine zR 2 ?_
    refine Kt 9 32 (.bool b46) ?_ ?_
    ·rcases Jk h44 with ⟨hb,h44⟩|⟨hb,h44⟩
     ·refine zS 23 hb (zR 4 ?_)
      obtain ⟨x47,h45,h44⟩:=Jh h44
      refine zI h45 ?_
      cases h44
      exact zF
     refine zS 23 hb ?_
     cases h44
     exact zF
    refine zN (Jc ?_)
    rcases Jk h41 with ⟨hb,h41⟩|⟨hb,h41⟩
    ·refine zT hb (Jf (zR 6 ?_))
     obtain ⟨x48,h46,h41⟩:=Jh h41
     refine Tg (tk:=100005) (N:=((x25:(List Je)).map cellsOf).length) h46 (by kernel_rfl) (by kernel_rfl) (by kernel_rfl) ?_
     refine zE (Kd ?_)
     cases h41
     exact zJ
    refine zU hb (Jj (Kd ?_))
    cases h41
    exact zJ
   rintro x43 rfl
   have h34:=Kg h34
   refine Jf (zE ?_)
   cases h34
   exact zB
  refine zU hb (Kc (Jv ?_))
  cases h34
  exact zX
 rintro x37 s' rfl hs
 have h:=Kg h
 refine Jt (Jc (Ke hs (Ja (Jf (zR 1 ?_)))))
 obtain ⟨r49,h47,h⟩:=Jh h
 refine Ju2 (t:=100005) (L:=(x37:(List Je))) (L':=(r49:(List Je))) (N:=((x37:(List Je)).map cellsOf).length) (by kernel_rfl) (by kernel_rfl) (by kernel_rfl) (Zf _ r49 h47) ?_
 refine zN (Jc (Ja (Jf (zR 1 ?_))))
 obtain ⟨r50,h48,h⟩:=Jh h
 refine Js8 (t:=100005) (L:=(r49:(List Je))) (L':=(r50.1:(List Je))) (m:=r50.2) (N:=((x37:(List Je)).map cellsOf).length) (by kernel_rfl) (by kernel_rfl) (by kernel_rfl) (It _ r50 h48) ?_
 refine zE (Jc (Jp ?_))
 cases h
 exact zQ
/-! walk.Sections -/
noncomputable def Zv (a0:Jd) (a1:(List Jb)):(Int×(List (Int×Bool))×(List Int))→Option ((Int×(List (Int×Bool))×(List Int))⊕((List Int)⊕(List Int))):=fun (x23,x24,x25) =>
 bif decide (x23<((a1.length:Nat):Int)) then (
  onInl (α:=((List Int)×(List (Int×Bool)))) (β:=((Int×(List (Int×Bool))×(List Int))⊕((List Int)⊕(List Int)))) (
   (ixO a1 x23).bind fun x43 =>
   (Yj a0 x43.El).bind fun r44 =>
   bif (!r44) then (
    some (.inl (x25,x24))
   ) else (
    (ixO a0.Elements x43.El).bind fun x45 =>
    bif (!((Vo (x24:(List (Int×Bool))) x45.Section).getD false)) then (
     (Vv x25 [x45.Section]).bind fun x46 =>
     some (.inl (x46,(My x45.Section true x24)))
    ) else (
     some (.inl (x25,x24))
    )
   )
  ) fun (x41,x42) =>
  some (.inl (w64 (x23+1),x42,x41))
 ) else (
  some (.inr (.inl x25))
 )
noncomputable def Vp (a0:Jd) (a1:(List Jb)):Option (List Int) :=
 onInl (α:=(List Int)) (β:=(List Int)) (Kl (Zv a0 a1) (0,([]:(List (Int×Bool))),([]:(List Int)))) fun x36 =>
 some x36
theorem Oj (a0:Jd) (a1:(List Jb)) (r:(List Int)) (h:Vp a0 a1=some r):Km Go.Proofs.Tryz.prog GlS 17 [Enc.pv a0,Enc.pv a1] (Jo (.own 100005) r):=by
 unfold Vp at h
 refine Jr Go.Proofs.Tryz.func17 (by rfl) rfl Go.Proofs.Tryz.ntmps17 (by rfl) rfl ?_
 refine Ja (Jf (zE (Jc (Ja (Jf (zE (Jc (Ja (Jf (zE (Jc (Ja (Ja (Jf (zR 1 ?_)))))))))))))))
 refine Kf (L:=(a1:(List Jb))) (by kernel_rfl) ?_
 refine zE (Jc (Jn (Df 5 100005 1 8 (by kernel_rfl) (by kernel_rfl) ?_)))
 obtain ⟨o29,h29,h⟩:=Kq h
 refine Ki 41 0 (fun (x23,x24,x25)=>⟨[(2,.ref 2 0),(5,Jo (.own 100005) (x25:(List Int))),(6,.mp 10),(11,Jo .frozen (a1:(List Jb))),(12,.int .i64 ((a1.length:Nat):Int)),(13,.int .i64 x23)],[(2,.cells (cellsOf a0)),(10,.map (Lz (x24:(List (Int×Bool)))))],[(100005,(((x25).map cellsOf).length,1))],[]⟩) (fun x36=>⟨[(5,Jo (.own 100005) (x36:(List Int)))],[],[(100005,(((x36).map cellsOf).length,1))],[]⟩) h29 (by kernel_rfl) (fun _=>by kernel_rfl) ?_ ?_
 ·rintro ⟨x23,x24,x25⟩ oh28 h28
  unfold Zv at h28
  refine Ja (Jf (zE (Jc (Ja ?_))))
  rcases Jk h28 with ⟨hb,h28⟩|⟨hb,h28⟩
  ·refine zT hb (Jj (Jc ?_))
   obtain ⟨o34,h34,h28⟩:=Kq h28
   refine Vx (o:=o34) 41 (fun (x41,x42)=>⟨[(2,.ref 2 0),(5,Jo (.own 100005) (x41:(List Int))),(6,.mp 10),(11,Jo .frozen (a1:(List Jb))),(12,.int .i64 ((a1.length:Nat):Int)),(13,.int .i64 x23)],[(2,.cells (cellsOf a0)),(10,.map (Lz (x42:(List (Int×Bool)))))],[(100005,(((x41).map cellsOf).length,1))],[]⟩) ?_ ?_
   ·refine Jn (Ja (Jf ?_))
    obtain ⟨x43,h35,h34⟩:=Jh h34
    refine zI h35 (zE (Jc (Ja (Ja (Jf (zR 3 ?_))))))
    obtain ⟨r44,h36,h34⟩:=Jh h34
    refine Ju (Eg _ _ r44 h36) (by kernel_rfl) (by kernel_rfl) (zE (Jc ?_))
    rcases Jk h34 with ⟨hb,h34⟩|⟨hb,h34⟩
    ·refine zT hb (Kc (Jv (Jt ?_)))
     cases h34
     exact zJ
    refine zU hb (Jj (Jc (Ja (Jf (zR 4 ?_)))))
    obtain ⟨x45,h37,h34⟩:=Jh h34
    refine zI h37 (zE (Jc (Ja (Jf (zR 2 ?_)))))
    refine Sd (m:=(x24:(List (Int×Bool)))) (k:=x45.Section) false 10 (by kernel_rfl) (by kernel_rfl) ?_
    refine zE (Jc ?_)
    rcases Jk h34 with ⟨hb,h34⟩|⟨hb,h34⟩
    ·refine zT hb (Ja (Jf (zR 2 ?_)))
     refine Jcz (m:=(x24:(List (Int×Bool)))) (k:=x45.Section) (v:=true) 10 (by kernel_rfl) (by kernel_rfl) (by kernel_rfl) ?_
     refine zN (Jc (Jf (zR 3 ?_)))
     obtain ⟨x46,h38,h34⟩:=Jh h34
     refine Zz (tk:=100005) h38 (by kernel_rfl) (by kernel_rfl) ?_
     refine zE (Kd ?_)
     cases h34
     exact zJ
    refine zU hb (Jj (Kd ?_))
    cases h34
    exact zJ
   rintro ⟨x41,x42⟩ rfl
   have h28:=Kg h28
   refine Jf (zE ?_)
   cases h28
   exact zB
  refine zU hb (Kc (Jv ?_))
  cases h28
  exact zX
 rintro x36 s' rfl hs
 have h:=Kg h
 refine Jt (Jc (Ke hs (Ja (Jf (zE (Jc (Jp ?_)))))))
 cases h
 exact zQ
theorem Nw (a0:Jd) (a1:(List Jb)) (r:(List Int)) (h:Vp a0 a1=some r):Km Go.Proofs.Tryz.prog GlS 17 [Enc.pv a0,Enc.pv a1] (Enc.pv r) :=
 (Oj a0 a1 r h).freeze (by kernel_rfl) (by kernel_rfl) (by kernel_rfl)
/-! walk.Length -/
noncomputable def Cm (a0:Jd) (a1:(List Jb)):(Int×Int)→Option ((Int×Int)⊕(Int⊕Int)):=fun (x8,x9) =>
 bif decide (x9<((a1.length:Nat):Int)) then (
  onInl (α:=Int) (β:=((Int×Int)⊕(Int⊕Int))) (
   (ixO a1 x9).bind fun x22 =>
   (Yj a0 x22.El).bind fun r23 =>
   bif r23 then (
    (ixO a0.Elements x22.El).bind fun x24 =>
    some (.inl (w64 (x8+x24.Length)))
   ) else (
    some (.inl x8)
   )
  ) fun x21 =>
  some (.inl (x21,w64 (x9+1)))
 ) else (
  some (.inr (.inl x8))
 )
noncomputable def Cp (a0:Jd) (a1:(List Jb)):Option Int :=
 onInl (α:=Int) (β:=Int) (Kl (Cm a0 a1) (0,0)) fun x17 =>
 some x17
theorem Rs (a0:Jd) (a1:(List Jb)) (r:Int) (h:Cp a0 a1=some r):Km Go.Proofs.Tryz.prog GlS 20 [Enc.pv a0,Enc.pv a1] (Enc.pv r):=by
 unfold Cp at h
 refine Jr Go.Proofs.Tryz.func20 (by rfl) rfl Go.Proofs.Tryz.ntmps20 (by rfl) rfl ?_
 refine Ja (Jf (zE (Jc (Ja (Jf (zE (Jc (Ja (Ja (Jf (zR 1 ?_)))))))))))
 refine Kf (L:=(a1:(List Jb))) (by kernel_rfl) ?_
 refine zE (Jc (Jn ?_))
 obtain ⟨o16,h16,h⟩:=Kq h
 refine Ki 29 0 (fun (x8,x9)=>⟨[(2,.ref 2 0),(5,.int .i64 x8),(8,Jo .frozen (a1:(List Jb))),(9,.int .i64 ((a1.length:Nat):Int)),(10,.int .i64 x9)],[(2,.cells (cellsOf a0))],[],[]⟩) (fun x17=>⟨[(5,.int .i64 x17)],[],[],[]⟩) h16 (by kernel_rfl) (fun _=>by kernel_rfl) ?_ ?_
 ·rintro ⟨x8,x9⟩ oh15 h15
  unfold Cm at h15
  refine Ja (Jf (zE (Jc (Ja ?_))))
  rcases Jk h15 with ⟨hb,h15⟩|⟨hb,h15⟩
  ·refine zT hb (Jj (Jc ?_))
   obtain ⟨o20,h20,h15⟩:=Kq h15
   refine Vx (o:=o20) 29 (fun x21=>⟨[(2,.ref 2 0),(5,.int .i64 x21),(8,Jo .frozen (a1:(List Jb))),(9,.int .i64 ((a1.length:Nat):Int)),(10,.int .i64 x9)],[(2,.cells (cellsOf a0))],[],[]⟩) ?_ ?_
   ·refine Jn (Ja (Jf ?_))
    obtain ⟨x22,h21,h20⟩:=Jh h20
    refine zI h21 (zE (Jc (Ja (Jf (zR 3 ?_)))))
    obtain ⟨r23,h22,h20⟩:=Jh h20
    refine Ju (Eg _ _ r23 h22) (by kernel_rfl) (by kernel_rfl) (zN (Jc ?_))
    rcases Jk h20 with ⟨hb,h20⟩|⟨hb,h20⟩
    ·refine zT hb (Jf (zR 5 ?_))
     obtain ⟨x24,h23,h20⟩:=Jh h20
     refine zI h23 (zE (Kd ?_))
     cases h20
     exact zJ
    refine zU hb (Jj (Kd ?_))
    cases h20
    exact zJ
   rintro x21 rfl
   have h15:=Kg h15
   refine Jf (zE ?_)
   cases h15
   exact zB
  refine zU hb (Kc (Jv ?_))
  cases h15
  exact zX
 rintro x17 s' rfl hs
 have h:=Kg h
 refine Jt (Jc (Ke hs (Ja (Jf (zE (Jc (Jp ?_)))))))
 cases h
 exact zQ
/-! route.build -/
noncomputable def Co (a0:Jd) (a1:Int) (a2:(List Jb)):Option Jl :=
 (ixO a0.Signals a1).bind fun x1 =>
 (Fa a2).bind fun r2 =>
 (Va a0 r2).bind fun r3 =>
 onInl (α:=ByteArray) (β:=Jl) (
  bif decide (0≤r3) then (
   (ixO a0.Signals r3).bind fun x6 =>
   some (.inl x6.Name)
  ) else (
   some (.inl (ByteArray.mk #[101,110,100]))
  )
 ) fun x5 =>
 (Pb x1.Name (ByteArray.mk #[45])).bind fun x7 =>
 (Pb x7 x5).bind fun x8 =>
 (Zm a0 a2).bind fun r9 =>
 (Vp a0 a2).bind fun r10 =>
 (Qe a0 x1.At.El).bind fun r11 =>
 (Cp a0 a2).bind fun r12 =>
 some (Jl.mk x8 a1 r3 a2 r9 r10 r11 r12 [] [] [] [] [] [])
theorem Je4 (a0:Jd) (a1:Int) (a2:(List Jb)) (r:Jl) (h:Co a0 a1 a2=some r):Km Go.Proofs.Tryz.prog GlS 29 [Enc.pv a0,Enc.pv a1,Enc.pv a2] (Enc.pv r):=by
 unfold Co at h
 refine Jr Go.Proofs.Tryz.func29 (by rfl) rfl Go.Proofs.Tryz.ntmps29 (by rfl) rfl ?_
 refine Ja (Jf (zE (Jc (Ja (Jf (zR 3 ?_))))))
 obtain ⟨x1,h1,h⟩:=Jh h
 refine zI h1 (zE (Jc (Ja (Kv (by kernel_rfl) (by kernel_rfl) (zR 2 ?_)))))
 obtain ⟨r2,h2,h⟩:=Jh h
 refine Ju (Mm _ r2 h2) (by kernel_rfl) (by kernel_rfl) ?_
 obtain ⟨r3,h3,h⟩:=Jh h
 refine Ju (Yu _ _ r3 h3) (by kernel_rfl) (by kernel_rfl) (zE (Jc ?_))
 obtain ⟨o5,h5,h⟩:=Kq h
 refine Vx (o:=o5) 50 (fun x5=>⟨[(1,.int .i64 a1),(2,Jo .frozen (a2:(List Jb))),(3,.ref 3 0),(6,.ref 6 0),(7,.ref 7 0),(8,.str x5),(9,.int .i64 r3)],[(3,.cells (cellsOf a0)),(6,.cells ([.str ByteArray.empty,.int .i64 0,.int .i64 0,.nil,.nil,.nil,.int .i64 0,.int .i64 0,.nil,.nil,.nil,.nil,.nil,.nil])),(7,.cells (cellsOf x1))],[],[]⟩) ?_ ?_
 ·refine Ja (Jf (zE (Jc ?_)))
  rcases Jk h5 with ⟨hb,h5⟩|⟨hb,h5⟩
  ·refine zT hb (Jf (zR 3 ?_))
   obtain ⟨x6,h6,h5⟩:=Jh h5
   refine zI h6 (zE ?_)
   cases h5
   exact zJ
  refine zU hb (Jj ?_)
  cases h5
  exact zJ
 rintro x5 rfl
 have h:=Kg h
 refine Ja (Kv (by kernel_rfl) (by kernel_rfl) (zR 2 ?_))
 obtain ⟨x7,h7,h⟩:=Jh h
 refine Oi h7 (by kernel_rfl) (zR 1 ?_)
 obtain ⟨x8,h8,h⟩:=Jh h
 refine Oi h8 (by kernel_rfl) (zR 5 ?_)
 obtain ⟨r9,h9,h⟩:=Jh h
 refine Ju (Oh _ _ r9 h9) (by kernel_rfl) (by kernel_rfl) (zR 2 ?_)
 obtain ⟨r10,h10,h⟩:=Jh h
 refine Ju (Nw _ _ r10 h10) (by kernel_rfl) (by kernel_rfl) (zR 4 ?_)
 obtain ⟨r11,h11,h⟩:=Jh h
 refine Ju (Qt _ _ r11 h11) (by kernel_rfl) (by kernel_rfl) (zR 2 ?_)
 obtain ⟨r12,h12,h⟩:=Jh h
 refine Ju (Rs _ _ r12 h12) (by kernel_rfl) (by kernel_rfl) (zE (Jc (Jp ?_)))
 cases h
 exact zQ
/-! strconv.Itoa (the shelf's contract) -/
noncomputable def Ds (a0:Int):Option ByteArray:=if -9223372036854775808≤a0∧a0≤9223372036854775807 then some ⟨(Lib.itoa a0).toArray⟩ else none
theorem Jdk (a0:Int) (r:ByteArray) (h:Ds a0=some r):Km Go.Proofs.Tryz.prog GlS 30 [Enc.pv a0] (Enc.pv r):=by
 unfold Ds at h
 split at h
 ·next hc =>
  cases h
  exact Jo8 Go.Proofs.Tryz.itoa30 (by kernel_rfl) ⟨_,Go.Proofs.Tryz.func30,rfl,rfl⟩ (g:=1) (by kernel_rfl) (by kernel_rfl) hc.1 hc.2
 ·cases h
/-! route.From -/
noncomputable def Dz (a0:Jd) (a1:Int) (r4:Jz):(Int×(List (ByteArray×Int))×(List Jl))→Option ((Int×(List (ByteArray×Int))×(List Jl))⊕((List Jl)⊕(List Jl))):=fun (x29,x30,x31) =>
 bif decide (x29<((((r4.paths_:(List (List Jb))).map cellsOf).length:Nat):Int)) then (
  (Rl 0 (((r4.paths_:(List (List Jb))).map cellsOf).length) x29).bind fun j44 =>
  (Pw r4.paths_ (((r4.paths_:(List (List Jb))).map cellsOf).length) j44).bind fun x45 =>
  (Co a0 a1 x45).bind fun r46 =>
  onInl (α:=ByteArray) (β:=((Int×(List (ByteArray×Int))×(List Jl))⊕((List Jl)⊕(List Jl)))) (
   bif decide (1<((Vo ((My r46.Name (w64 (((Vo (x30:(List (ByteArray×Int))) r46.Name).getD 0)+1)) x30):(List (ByteArray×Int))) r46.Name).getD 0)) then (
    (Ds ((Vo ((My r46.Name (w64 (((Vo (x30:(List (ByteArray×Int))) r46.Name).getD 0)+1)) x30):(List (ByteArray×Int))) r46.Name).getD 0)).bind fun r51 =>
    (Pb (ByteArray.mk #[46]) r51).bind fun x52 =>
    (Pb r46.Name x52).bind fun x53 =>
    some (.inl x53)
   ) else (
    some (.inl r46.Name)
   )
  ) fun x50 =>
  (Vv x31 [(Jl.mk x50 r46.Entry r46.Exit r46.Path r46.Points r46.Sections r46.Approach r46.Length r46.Over r46.OverPoints r46.OverSections r46.Flank r46.Guards r46.Gaps)]).bind fun x54 =>
  some (.inl (w64 (x29+1),(My r46.Name (w64 (((Vo (x30:(List (ByteArray×Int))) r46.Name).getD 0)+1)) x30),x54))
 ) else (
  some (.inr (.inl x31))
 )
noncomputable def Um (a0:Jd) (a1:Int):Option (List Jl) :=
 ((bif decide (a1<0) then some true else (
  some (decide (((a0.Signals.length:Nat):Int)≤a1))
 )):Option Bool).bind fun b1 =>
 bif b1 then (
  some ([]:(List Jl))
 ) else (
  (ixO a0.Signals a1).bind fun x2 =>
  (Ww a0 x2.At).bind fun r3 =>
  bif (!r3.2) then (
   some ([]:(List Jl))
  ) else (
   (Za (Jz.mk a0 []) ([]:(List Jb)) r3.1).bind fun r4 =>
   onInl (α:=(List Jl)) (β:=(List Jl)) (Kl (Dz a0 a1 r4) (0,([]:(List (ByteArray×Int))),([]:(List Jl)))) fun x43 =>
   some x43
  )
 )
theorem Ga (a0:Jd) (a1:Int) (r:(List Jl)) (h:Um a0 a1=some r):Km Go.Proofs.Tryz.prog GlS 11 [Enc.pv a0,Enc.pv a1] (Jo (.own 100008) r):=by
 unfold Um at h
 refine Jr Go.Proofs.Tryz.func11 (by rfl) rfl Go.Proofs.Tryz.ntmps11 (by rfl) rfl ?_
 refine Ja (Jf (zE (Jc (Ja (Ja (Jf ?_))))))
 obtain ⟨b1,h1,h⟩:=Jh h
 refine zR 3 ?_
 refine Kt 6 22 (.bool b1) ?_ ?_
 ·rcases Jk h1 with ⟨hb,h1⟩|⟨hb,h1⟩
  ·refine zS 16 hb ?_
   cases h1
   exact zF
  refine zS 16 hb (zR 3 ?_)
  refine Kf (L:=(a0.Signals:(List Js))) (by kernel_rfl) ?_
  cases h1
  exact zF
 refine zN (Jc ?_)
 rcases Jk h with ⟨hb,h⟩|⟨hb,h⟩
 ·refine zT hb (Ja (Jf (zE (Jc (Df 4 100008 14 264 (by kernel_rfl) (by kernel_rfl) (Jp (Ji ?_)))))))
  cases h
  exact zQ
 refine zU hb (Jj (Jc (Ja (Kv (by kernel_rfl) (by kernel_rfl) (zR 4 ?_)))))
 obtain ⟨x2,h2,h⟩:=Jh h
 refine zI h2 (zR 2 ?_)
 obtain ⟨r3,h3,h⟩:=Jh h
 refine Ju (Gu _ _ r3 h3) (by kernel_rfl) (by kernel_rfl) (zE (Jc (Ja (Ja (Jf (zE (Jc ?_)))))))
 rcases Jk h with ⟨hb,h⟩|⟨hb,h⟩
 ·refine zT hb (Ja (Jf (zE (Jc (Df 4 100008 14 264 (by kernel_rfl) (by kernel_rfl) (Jp (Ji ?_)))))))
  cases h
  exact zQ
 refine zU hb (Jj (Jc (Ja (Jf (zE (Jc (Ja (Jf (zR 1 ?_)))))))))
 obtain ⟨r4,h4,h⟩:=Jh h
 refine Jbj (some 7) [303900,400039] [(7,6,303900,1,24)] (some (400039,3,24)) (Pv _ _ _ r4 h4) (by kernel_rfl) (by kernel_rfl) (by kernel_rfl) (by kernel_rfl) (by kernel_rfl) ?_
 refine zN (Jc (Ja (Jf (zE (Jc (Ja (Jf (zE (Jc (Ja (Ja (Jf (zE (Jc (Jn ?_)))))))))))))))
 refine Df 8 100008 14 264 (by kernel_rfl) (by kernel_rfl) ?_
 obtain ⟨o39,h39,h⟩:=Kq h
 refine Ki 76 0 (fun (x29,x30,x31)=>⟨[(1,.int .i64 a1),(2,.ref 2 0),(8,Jo (.own 100008) (x31:(List Jl))),(9,.mp 40),(42,.ex 303900 1 24 (((r4.paths_:(List (List Jb))).map cellsOf).length) 0 (((r4.paths_:(List (List Jb))).map cellsOf).length)),(43,.int .i64 ((((r4.paths_:(List (List Jb))).map cellsOf).length:Nat):Int)),(44,.int .i64 x29)],[(2,.cells (cellsOf a0)),(40,.map (Lz (x30:(List (ByteArray×Int)))))],[(100008,(((x31).map cellsOf).length,14)),(303900,(((r4.paths_:(List (List Jb))).map cellsOf).length,0))],[(303900,(1,(24,(r4.paths_:(List (List Jb))).map cellsOf)))]⟩) (fun x43=>⟨[(8,Jo (.own 100008) (x43:(List Jl)))],[],[(100008,(((x43).map cellsOf).length,14))],[]⟩) h39 (by kernel_rfl) (fun _=>by kernel_rfl) ?_ ?_
 ·rintro ⟨x29,x30,x31⟩ oh38 h38
  unfold Dz at h38
  refine Ja (Jf (zE (Jc (Ja ?_))))
  rcases Jk h38 with ⟨hb,h38⟩|⟨hb,h38⟩
  ·refine zT hb (Jj (Jc (Ja (Jn (Ja (Jf ?_))))))
   obtain ⟨j44,h40,h38⟩:=Jh h38
   refine Xu (tk:=303900) (k:=1) (N:=((r4.paths_:(List (List Jb))).map cellsOf).length) h40 (by kernel_rfl) ?_
   obtain ⟨x45,h41,h38⟩:=Jh h38
   refine Jb3 (L:=(r4.paths_:(List (List Jb)))) (N:=((r4.paths_:(List (List Jb))).map cellsOf).length) (j:=j44) (y:=x45) (v:=Jo .frozen (x45:(List Jb))) h41 false 1 0 (by kernel_rfl) (by kernel_rfl) ?_
   refine zE (Jc (Ja (Jf (zR 3 ?_))))
   obtain ⟨r46,h42,h38⟩:=Jh h38
   refine Ju (Je4 _ _ _ r46 h42) (by kernel_rfl) (by kernel_rfl) (zE (Jc (Ja (Jf (zR 3 ?_)))))
   refine Sd (m:=(x30:(List (ByteArray×Int)))) (k:=r46.Name) 0 40 (by kernel_rfl) (by kernel_rfl) ?_
   refine zR 1 ?_
   refine Jcz (m:=(x30:(List (ByteArray×Int)))) (k:=r46.Name) (v:=(w64 (((Vo (x30:(List (ByteArray×Int))) r46.Name).getD 0)+1))) 40 (by kernel_rfl) (by kernel_rfl) (by kernel_rfl) ?_
   refine zN (Jc ?_)
   obtain ⟨o46,h46,h38⟩:=Kq h38
   refine Vx (o:=o46) 76 (fun x50=>⟨[(1,.int .i64 a1),(2,.ref 2 0),(8,Jo (.own 100008) (x31:(List Jl))),(9,.mp 40),(12,.ref 12 0),(42,.ex 303900 1 24 (((r4.paths_:(List (List Jb))).map cellsOf).length) 0 (((r4.paths_:(List (List Jb))).map cellsOf).length)),(43,.int .i64 ((((r4.paths_:(List (List Jb))).map cellsOf).length:Nat):Int)),(44,.int .i64 x29)],[(2,.cells (cellsOf a0)),(12,.cells ([.str x50,.int .i64 r46.Entry,.int .i64 r46.Exit,Jo .frozen (r46.Path:(List Jb)),Jo .frozen (r46.Points:(List Je)),Jo .frozen (r46.Sections:(List Int)),.int .i64 r46.Approach,.int .i64 r46.Length,Jo .frozen (r46.Over:(List Jb)),Jo .frozen (r46.OverPoints:(List Je)),Jo .frozen (r46.OverSections:(List Int)),Jo .frozen (r46.Flank:(List Je)),Jo .frozen (r46.Guards:(List Int)),Jo .frozen (r46.Gaps:(List Jg))])),(40,.map (Lz ((My r46.Name (w64 (((Vo (x30:(List (ByteArray×Int))) r46.Name).getD 0)+1)) x30):(List (ByteArray×Int)))))],[(100008,(((x31).map cellsOf).length,14)),(303900,(((r4.paths_:(List (List Jb))).map cellsOf).length,0))],[(303900,(1,(24,(r4.paths_:(List (List Jb))).map cellsOf)))]⟩) ?_ ?_
   ·refine Ja (Jf (zR 3 ?_))
    refine Sd (m:=((My r46.Name (w64 (((Vo (x30:(List (ByteArray×Int))) r46.Name).getD 0)+1)) x30):(List (ByteArray×Int)))) (k:=r46.Name) 0 40 (by kernel_rfl) (by kernel_rfl) ?_
    refine zE (Jc (Ja (Jf (zE (Jc ?_)))))
    rcases Jk h46 with ⟨hb,h46⟩|⟨hb,h46⟩
    ·refine zT hb (Kv (by kernel_rfl) (by kernel_rfl) (zR 3 ?_))
     obtain ⟨r51,h47,h46⟩:=Jh h46
     refine Ju (Jdk _ r51 h47) (by kernel_rfl) (by kernel_rfl) ?_
     obtain ⟨x52,h48,h46⟩:=Jh h46
     refine Oi h48 (by kernel_rfl) ?_
     obtain ⟨x53,h49,h46⟩:=Jh h46
     refine Oi h49 (by kernel_rfl) (zE ?_)
     cases h46
     exact zJ
    refine zU hb (Jj ?_)
    cases h46
    exact zJ
   rintro x50 rfl
   have h38:=Kg h38
   refine Jf (zR 3 ?_)
   obtain ⟨x54,h50,h38⟩:=Jh h38
   refine Zz (tk:=100008) h50 (by kernel_rfl) (by kernel_rfl) ?_
   refine zE (Kd (Jc (Jf (zE ?_))))
   cases h38
   exact zB
  refine zU hb (Kc (Jv ?_))
  cases h38
  exact zX
 rintro x43 s' rfl hs
 have h:=Kg h
 refine Jt (Jc (Ke hs (Ja (Jf (zE (Jc (Jp ?_)))))))
 cases h
 exact zQ
theorem Gf (a0:Jd) (a1:Int) (r:(List Jl)) (h:Um a0 a1=some r):Km Go.Proofs.Tryz.prog GlS 11 [Enc.pv a0,Enc.pv a1] (Enc.pv r) :=
 (Ga a0 a1 r h).freeze (by kernel_rfl) (by kernel_rfl) (by kernel_rfl)
/-! layout.within -/
noncomputable def Ky (a0:Int) (a1:Int) (a2:Int):Option Bool :=
 some ((decide (a1≤a0))&&(decide (a0≤a2)))
theorem Qa (a0:Int) (a1:Int) (a2:Int) (r:Bool) (h:Ky a0 a1 a2=some r):Km Go.Proofs.Tryz.prog GlS 104 [Enc.pv a0,Enc.pv a1,Enc.pv a2] (Enc.pv r):=by
 unfold Ky at h
 refine Jr Go.Proofs.Tryz.func104 (by rfl) rfl Go.Proofs.Tryz.ntmps104 (by rfl) rfl ?_
 refine Ja (Jf (zE (Jc (Ja (Jf (zR 4 ?_))))))
 refine Qb 4 14 ((decide (a1≤a0))&&(decide (a0≤a2))) (fun x hx=>?_) ?_
 ·rcases Bq hx with ⟨hb,hx⟩|⟨hb,hx⟩
  ·refine zS 10 hb ?_
   subst hx
   exact zF
  refine zS 10 hb ?_
  subst hx
  exact zF
 refine zE (Jc (Jp ?_))
 cases h
 exact zQ
/-! layout.countsFit -/
noncomputable def Yt (a0:Jd):Option Bool :=
 (Ky ((a0.Elements.length:Nat):Int) 1 32).bind fun r1 =>
 ((bif r1 then (
  (Ky ((a0.Sections.length:Nat):Int) 1 24).bind fun r3 =>
  some r3
 ) else some false):Option Bool).bind fun b2 =>
 ((bif b2 then (
  some (decide (((a0.Signals.length:Nat):Int)≤20))
 ) else some false):Option Bool).bind fun b4 =>
 ((bif b4 then (
  some (decide (((a0.Balises.length:Nat):Int)≤24))
 ) else some false):Option Bool).bind fun b5 =>
 some b5
theorem Xq (a0:Jd) (r:Bool) (h:Yt a0=some r):Km Go.Proofs.Tryz.prog GlS 85 [Enc.pv a0] (Enc.pv r):=by
 unfold Yt at h
 refine Jr Go.Proofs.Tryz.func85 (by rfl) rfl Go.Proofs.Tryz.ntmps85 (by rfl) rfl ?_
 refine Ja (Jf (zE (Jc (Ja (Jf (zR 2 ?_))))))
 refine Kf (L:=(a0.Elements:(List Jq))) (by kernel_rfl) ?_
 obtain ⟨r1,h1,h⟩:=Jh h
 refine Ju (Qa _ _ _ r1 h1) (by kernel_rfl) (by kernel_rfl) ?_
 obtain ⟨b2,h2,h⟩:=Jh h
 refine zR 1 ?_
 refine Kt 5 12 (.bool b2) ?_ ?_
 ·rcases Jk h2 with ⟨hb,h2⟩|⟨hb,h2⟩
  ·refine zS 7 hb (zR 2 ?_)
   refine Kf (L:=(a0.Sections:(List ByteArray))) (by kernel_rfl) ?_
   obtain ⟨r3,h3,h2⟩:=Jh h2
   refine Ju (Qa _ _ _ r3 h3) (by kernel_rfl) (by kernel_rfl) ?_
   cases h2
   exact zF
  refine zS 7 hb ?_
  cases h2
  exact zF
 obtain ⟨b4,h4,h⟩:=Jh h
 refine zR 1 ?_
 refine Kt 5 18 (.bool b4) ?_ ?_
 ·rcases Jk h4 with ⟨hb,h4⟩|⟨hb,h4⟩
  ·refine zS 13 hb (zR 2 ?_)
   refine Kf (L:=(a0.Signals:(List Js))) (by kernel_rfl) ?_
   cases h4
   exact zF
  refine zS 13 hb ?_
  cases h4
  exact zF
 obtain ⟨b5,h5,h⟩:=Jh h
 refine zR 1 ?_
 refine Kt 5 24 (.bool b5) ?_ ?_
 ·rcases Jk h5 with ⟨hb,h5⟩|⟨hb,h5⟩
  ·refine zS 19 hb (zR 2 ?_)
   refine Kf (L:=(a0.Balises:(List Kh))) (by kernel_rfl) ?_
   cases h5
   exact zF
  refine zS 19 hb ?_
  cases h5
  exact zF
 refine zE (Jc (Jp ?_))
 cases h
 exact zQ
/-! words.Name -/
noncomputable def Ib (a0:ByteArray):Nat→Option (Nat⊕(Unit⊕Bool)):=fun x5 =>
 bif decide (x5<a0.size) then (
  bif ((((decide ((((Go.Utf8.decode a0 x5).1:Nat):Int)<97))||(decide (122<(((Go.Utf8.decode a0 x5).1:Nat):Int))))&&((decide ((((Go.Utf8.decode a0 x5).1:Nat):Int)<48))||(decide (57<(((Go.Utf8.decode a0 x5).1:Nat):Int)))))&&(!(decide ((((Go.Utf8.decode a0 x5).1:Nat):Int)=95)))) then (
   some (.inr (.inr false))
  ) else (
   some (.inl (x5+(Go.Utf8.decode a0 x5).2))
  )
 ) else (
  some (.inr (.inl ()))
 )
noncomputable def Ih (a0:ByteArray):Option Bool :=
 ((bif ((decide (a0=ByteArray.empty))||(decide (12<((a0.size:Nat):Int)))) then some true else (
  (Ji5 a0 0).bind fun x2 =>
  some (decide (x2<97))
 )):Option Bool).bind fun b1 =>
 ((bif b1 then some true else (
  (Ji5 a0 0).bind fun x4 =>
  some (decide (122<x4))
 )):Option Bool).bind fun b3 =>
 bif b3 then (
  some false
 ) else (
  onInl (α:=Unit) (β:=Bool) (Kl (Ib a0) 0) fun _ =>
  some true
 )
theorem Jgp (a0:ByteArray) (r:Bool) (h:Ih a0=some r):Km Go.Proofs.Tryz.prog GlS 105 [Enc.pv a0] (Enc.pv r):=by
 unfold Ih at h
 refine Jr Go.Proofs.Tryz.func105 (by rfl) rfl Go.Proofs.Tryz.ntmps105 (by rfl) rfl ?_
 refine Ja (Jf (zE (Jc (Ja (Ja (Jf (zR 3 ?_)))))))
 refine Qb 4 11 ((decide (a0=ByteArray.empty))||(decide (12<((a0.size:Nat):Int)))) (fun x hx=>?_) ?_
 ·rcases Ck hx with ⟨hb,hx⟩|⟨hb,hx⟩
  ·refine zS 7 hb ?_
   subst hx
   exact zF
  refine zS 7 hb ?_
  subst hx
  exact zF
 obtain ⟨b1,h1,h⟩:=Jh h
 refine zR 1 ?_
 refine Kt 4 16 (.bool b1) ?_ ?_
 ·rcases Jk h1 with ⟨hb,h1⟩|⟨hb,h1⟩
  ·refine zS 12 hb ?_
   cases h1
   exact zF
  refine zS 12 hb (zR 1 ?_)
  obtain ⟨x2,h2,h1⟩:=Jh h1
  refine Jic h2 (by kernel_rfl) ?_
  cases h1
  exact zF
 obtain ⟨b3,h3,h⟩:=Jh h
 refine zR 1 ?_
 refine Kt 4 21 (.bool b3) ?_ ?_
 ·rcases Jk h3 with ⟨hb,h3⟩|⟨hb,h3⟩
  ·refine zS 17 hb ?_
   cases h3
   exact zF
  refine zS 17 hb (zR 1 ?_)
  obtain ⟨x4,h4,h3⟩:=Jh h3
  refine Jic h4 (by kernel_rfl) ?_
  cases h3
  exact zF
 refine zN (Jc ?_)
 rcases Jk h with ⟨hb,h⟩|⟨hb,h⟩
 ·refine zT hb (Ja (Jf (zE (Jc (Jp (Ji ?_))))))
  cases h
  exact zQ
 refine zU hb (Jj (Jc (Ja (Ja (Jf (zR 1 ?_))))))
 refine Juo (b:=a0) (l:=23) (by kernel_rfl) ?_
 refine zN (Jc (Jn ?_))
 obtain ⟨o8,h8,h⟩:=Kq h
 refine Ki 45 0 (fun x5=>⟨[(23,.ref 23 0)],[(23,.iter a0 x5)],[],[]⟩) (fun (_:Unit)=>⟨[],[],[],[]⟩) h8 (by kernel_rfl) (fun _=>by kernel_rfl) ?_ ?_
 ·rintro x5 oh7 h7
  unfold Ib at h7
  refine Ja (Jf ?_)
  rcases Jk h7 with ⟨hb,h7⟩|⟨hb,h7⟩
  ·refine Jt8 (b:=a0) (pos:=x5) 23 (by kernel_rfl) hb (by kernel_rfl) ?_
   refine zE (Jc (Ja ?_))
   refine Jn9 (b:=true) rfl (by kernel_rfl) ?_
   refine Jj (Jc (Jn (Ja (Jf (zE (Jc (Ja (Jf (zR 3 ?_)))))))))
   refine Qb 3 32 ((decide ((((Go.Utf8.decode a0 x5).1:Nat):Int)<97))||(decide (122<(((Go.Utf8.decode a0 x5).1:Nat):Int)))) (fun x hx=>?_) ?_
   ·rcases Ck hx with ⟨hb,hx⟩|⟨hb,hx⟩
    ·refine zS 29 hb ?_
     subst hx
     exact zF
    refine zS 29 hb ?_
    subst hx
    exact zF
   refine zR 1 ?_
   refine Qb 7 40 (((decide ((((Go.Utf8.decode a0 x5).1:Nat):Int)<97))||(decide (122<(((Go.Utf8.decode a0 x5).1:Nat):Int))))&&((decide ((((Go.Utf8.decode a0 x5).1:Nat):Int)<48))||(decide (57<(((Go.Utf8.decode a0 x5).1:Nat):Int))))) (fun x hx=>?_) ?_
   ·rcases Bq hx with ⟨hb,hx⟩|⟨hb,hx⟩
    ·refine zS 33 hb (zR 3 ?_)
     refine Jh5 3 39 ((decide ((((Go.Utf8.decode a0 x5).1:Nat):Int)<48))||(decide (57<(((Go.Utf8.decode a0 x5).1:Nat):Int)))) (fun x hx=>?_) ?_
     ·rcases Ck hx with ⟨hb,hx⟩|⟨hb,hx⟩
      ·refine zS 36 hb ?_
       subst hx
       exact zF
      refine zS 36 hb ?_
      subst hx
      exact zF
     subst hx
     exact zF
    refine zS 33 hb ?_
    subst hx
    exact zF
   refine zR 1 ?_
   refine Qb 3 44 ((((decide ((((Go.Utf8.decode a0 x5).1:Nat):Int)<97))||(decide (122<(((Go.Utf8.decode a0 x5).1:Nat):Int))))&&((decide ((((Go.Utf8.decode a0 x5).1:Nat):Int)<48))||(decide (57<(((Go.Utf8.decode a0 x5).1:Nat):Int)))))&&(!(decide ((((Go.Utf8.decode a0 x5).1:Nat):Int)=95)))) (fun x hx=>?_) ?_
   ·rcases Bq hx with ⟨hb,hx⟩|⟨hb,hx⟩
    ·refine zS 41 hb ?_
     subst hx
     exact zF
    refine zS 41 hb ?_
    subst hx
    exact zF
   refine zN (Jc ?_)
   rcases Jk h7 with ⟨hb,h7⟩|⟨hb,h7⟩
   ·refine zT hb (Ja (Jf (zE (Jc (Jp (Jm ?_))))))
    cases h7
    refine Kb fun he=>?_
    subst he
    have h9:=Ku h
    refine Jm (Ji ?_)
    cases h9
    exact zQ
   refine zU hb (Jj (Kd ?_))
   cases h7
   exact zB
  refine Jtn (b:=a0) (pos:=x5) 23 (by kernel_rfl) hb (by kernel_rfl) ?_
  refine zE (Jc (Ja ?_))
  refine Jm6 (b:=false) rfl (by kernel_rfl) ?_
  refine Kc (Jv ?_)
  cases h7
  exact zX
 rintro _ s' rfl hs
 have h:=Kg h
 refine Jt (Jc (Ke hs (Ja (Jf (zE (Jc (Jp ?_)))))))
 cases h
 exact zQ
/-! layout.checkNames -/
noncomputable def Zc (a0:Jd):((List ByteArray)×Int)→Option (((List ByteArray)×Int)⊕((List ByteArray)⊕Int)):=fun (x4,x5) =>
 bif decide (x5<((a0.Elements.length:Nat):Int)) then (
  (ixO a0.Elements x5).bind fun x9 =>
  (Vv x4 [x9.Name]).bind fun x10 =>
  some (.inl (x10,w64 (x5+1)))
 ) else (
  some (.inr (.inl x4))
 )
noncomputable def Yx (a0:Jd):((List ByteArray)×Int)→Option (((List ByteArray)×Int)⊕((List ByteArray)⊕Int)):=fun (x14,x15) =>
 bif decide (x15<((a0.Signals.length:Nat):Int)) then (
  (ixO a0.Signals x15).bind fun x19 =>
  (Vv x14 [x19.Name]).bind fun x20 =>
  some (.inl (x20,w64 (x15+1)))
 ) else (
  some (.inr (.inl x14))
 )
noncomputable def Vt (x38:(List ByteArray)):Int→Option (Int⊕(Unit⊕(Int⊕(Unit⊕Int)))):=fun x41 =>
 bif decide (x41<((x38.length:Nat):Int)) then (
  (ixO x38 x41).bind fun x44 =>
  (Ih x44).bind fun r45 =>
  bif (!r45) then (
   some (.inr (.inr (.inr (.inr 3))))
  ) else (
   some (.inl (w64 (x41+1)))
  )
 ) else (
  some (.inr (.inl ()))
 )
noncomputable def Zb (a0:Jd) (x8:(List ByteArray)) (x18:(List ByteArray)):Int→Option (Int⊕(Unit⊕Int)):=fun x29 =>
 bif decide (x29<(([[a0.Name],a0.Sections,x8,x18].length:Nat):Int)) then (
  (ixO [[a0.Name],a0.Sections,x8,x18] x29).bind fun x38 =>
  onInl (α:=Unit) (β:=(Int⊕(Unit⊕Int))) (Kl (Vt x38) 0) fun _ =>
  some (.inl (w64 (x29+1)))
 ) else (
  some (.inr (.inl ()))
 )
noncomputable def Vs (x59:(List ByteArray)):(Int×(List (ByteArray×Bool)))→Option ((Int×(List (ByteArray×Bool)))⊕(Unit⊕(Int⊕(Unit⊕Int)))):=fun (x61,x62) =>
 bif decide (x61<((x59.length:Nat):Int)) then (
  (ixO x59 x61).bind fun x64 =>
  bif ((Vo (x62:(List (ByteArray×Bool))) x64).getD false) then (
   some (.inr (.inr (.inr (.inr 8))))
  ) else (
   some (.inl (w64 (x61+1),(My x64 true x62)))
  )
 ) else (
  some (.inr (.inl ()))
 )
noncomputable def Yy (a0:Jd) (x8:(List ByteArray)) (x18:(List ByteArray)):Int→Option (Int⊕(Unit⊕Int)):=fun x52 =>
 bif decide (x52<(([[a0.Name],a0.Sections,x8,x18].length:Nat):Int)) then (
  (ixO [[a0.Name],a0.Sections,x8,x18] x52).bind fun x59 =>
  onInl (α:=Unit) (β:=(Int⊕(Unit⊕Int))) (Kl (Vs x59) (0,([]:(List (ByteArray×Bool))))) fun _ =>
  some (.inl (w64 (x52+1)))
 ) else (
  some (.inr (.inl ()))
 )
noncomputable def Yc (a0:Jd):Option Int :=
 (mkO ByteArray ((a0.Elements.length:Nat):Int)).bind fun x1 =>
 onInl (α:=(List ByteArray)) (β:=Int) (Kl (Zc a0) (x1,0)) fun x8 =>
 (mkO ByteArray ((a0.Signals.length:Nat):Int)).bind fun x11 =>
 onInl (α:=(List ByteArray)) (β:=Int) (Kl (Yx a0) (x11,0)) fun x18 =>
 onInl (α:=Unit) (β:=Int) (Kl (Zb a0 x8 x18) 0) fun _ =>
 onInl (α:=Unit) (β:=Int) (Kl (Yy a0 x8 x18) 0) fun _ =>
 some 0
theorem Th (a0:Jd) (r:Int) (h:Yc a0=some r):Km Go.Proofs.Tryz.prog GlS 86 [Enc.pv a0] (Enc.pv r):=by
 unfold Yc at h
 refine Jr Go.Proofs.Tryz.func86 (by rfl) rfl Go.Proofs.Tryz.ntmps86 (by rfl) rfl ?_
 refine Ja (Jf (zE (Jc (Ja (Jf (zR 2 ?_))))))
 refine Kf (L:=(a0.Elements:(List Jq))) (by kernel_rfl) ?_
 obtain ⟨x1,h1,h⟩:=Jh h
 refine Jvo 22 h1 (by kernel_rfl) (zE (Jc (Ja (Ja (Jf (zR 2 ?_))))))
 refine Kf (L:=(a0.Elements:(List Jq))) (by kernel_rfl) ?_
 refine zE (Jc (Jn ?_))
 obtain ⟨o7,h7,h⟩:=Kq h
 refine Ki 98 0 (fun (x4,x5)=>⟨[(1,.ref 1 0),(3,Jo (.own 22) (x4:(List ByteArray))),(24,Jo .frozen (a0.Elements:(List Jq))),(25,.int .i64 ((a0.Elements.length:Nat):Int)),(26,.int .i64 x5)],[(1,.cells (cellsOf a0))],[(22,(((x4).map cellsOf).length,1))],[]⟩) (fun x8=>⟨[(1,.ref 1 0),(3,Jo (.own 22) (x8:(List ByteArray)))],[(1,.cells (cellsOf a0))],[(22,(((x8).map cellsOf).length,1))],[]⟩) h7 (by kernel_rfl) (fun _=>by kernel_rfl) ?_ ?_
 ·rintro ⟨x4,x5⟩ oh6 h6
  unfold Zc at h6
  refine Ja (Jf (zE (Jc (Ja ?_))))
  rcases Jk h6 with ⟨hb,h6⟩|⟨hb,h6⟩
  ·refine zT hb (Jj (Jc (Ja (Jn (Ja (Jf ?_))))))
   obtain ⟨x9,h8,h6⟩:=Jh h6
   refine zI h8 (zE (Jc (Jf (zR 4 ?_))))
   obtain ⟨x10,h9,h6⟩:=Jh h6
   refine Zz (tk:=22) h9 (by kernel_rfl) (by kernel_rfl) ?_
   refine zE (Kd (Jc (Jf (zE ?_))))
   cases h6
   exact zB
  refine zU hb (Kc (Jv ?_))
  cases h6
  exact zX
 rintro x8 s' rfl hs
 have h:=Kg h
 refine Jt (Jc (Ke hs (Ja (Jf (zR 2 ?_)))))
 refine Kf (L:=(a0.Signals:(List Js))) (by kernel_rfl) ?_
 obtain ⟨x11,h10,h⟩:=Jh h
 refine Jvo 39 h10 (by kernel_rfl) (zE (Jc (Ja (Ja (Jf (zR 2 ?_))))))
 refine Kf (L:=(a0.Signals:(List Js))) (by kernel_rfl) ?_
 refine zE (Jc (Jn ?_))
 obtain ⟨o16,h16,h⟩:=Kq h
 refine Ki 98 2 (fun (x14,x15)=>⟨[(1,.ref 1 0),(3,Jo (.own 22) (x8:(List ByteArray))),(6,Jo (.own 39) (x14:(List ByteArray))),(41,Jo .frozen (a0.Signals:(List Js))),(42,.int .i64 ((a0.Signals.length:Nat):Int)),(43,.int .i64 x15)],[(1,.cells (cellsOf a0))],[(22,(((x8).map cellsOf).length,1)),(39,(((x14).map cellsOf).length,1))],[]⟩) (fun x18=>⟨[(1,.ref 1 0),(3,Jo (.own 22) (x8:(List ByteArray))),(6,Jo (.own 39) (x18:(List ByteArray)))],[(1,.cells (cellsOf a0))],[(22,(((x8).map cellsOf).length,1)),(39,(((x18).map cellsOf).length,1))],[]⟩) h16 (by kernel_rfl) (fun _=>by kernel_rfl) ?_ ?_
 ·rintro ⟨x14,x15⟩ oh15 h15
  unfold Yx at h15
  refine Ja (Jf (zE (Jc (Ja ?_))))
  rcases Jk h15 with ⟨hb,h15⟩|⟨hb,h15⟩
  ·refine zT hb (Jj (Jc (Ja (Jn (Ja (Jf ?_))))))
   obtain ⟨x19,h17,h15⟩:=Jh h15
   refine zI h17 (zE (Jc (Jf (zR 4 ?_))))
   obtain ⟨x20,h18,h15⟩:=Jh h15
   refine Zz (tk:=39) h18 (by kernel_rfl) (by kernel_rfl) ?_
   refine zE (Kd (Jc (Jf (zE ?_))))
   cases h15
   exact zB
  refine zU hb (Kc (Jv ?_))
  cases h15
  exact zX
 rintro x18 s' rfl hs
 have h:=Kg h
 refine Jt (Jc (Ke hs (Ja (Jf (zE (Jc (Ja (Ja (Jf (zR 1 ?_))))))))))
 refine Kf (L:=([[a0.Name],a0.Sections,x8,x18]:(List (List ByteArray)))) (by kernel_rfl) ?_
 refine zE (Jc (Jn ?_))
 obtain ⟨o50,h50,h⟩:=Kq h
 refine Ki 98 4 (fun x29=>⟨[(9,Jo .full ([[a0.Name],a0.Sections,x8,x18]:(List (List ByteArray)))),(61,Jo .full ([[a0.Name],a0.Sections,x8,x18]:(List (List ByteArray)))),(62,.int .i64 (([[a0.Name],a0.Sections,x8,x18].length:Nat):Int)),(63,.int .i64 x29)],[],[],[]⟩) (fun (_:Unit)=>⟨[(9,Jo .full ([[a0.Name],a0.Sections,x8,x18]:(List (List ByteArray))))],[],[],[]⟩) h50 (by kernel_rfl) (fun _=>by kernel_rfl) ?_ ?_
 ·rintro x29 oh49 h49
  unfold Zb at h49
  refine Ja (Jf (zE (Jc (Ja ?_))))
  rcases Jk h49 with ⟨hb,h49⟩|⟨hb,h49⟩
  ·refine zT hb (Jj (Jc (Ja (Jn (Ja (Jf ?_))))))
   obtain ⟨x38,h51,h49⟩:=Jh h49
   refine zI h51 (zE (Jc (Ja (Jf (zR 1 ?_)))))
   refine Kf (L:=(x38:(List ByteArray))) (by kernel_rfl) ?_
   refine zE (Jc (Jn ?_))
   obtain ⟨o61,h61,h49⟩:=Kq h49
   refine Ki 98 6 (fun x41=>⟨[(9,Jo .full ([[a0.Name],a0.Sections,x8,x18]:(List (List ByteArray)))),(61,Jo .full ([[a0.Name],a0.Sections,x8,x18]:(List (List ByteArray)))),(62,.int .i64 (([[a0.Name],a0.Sections,x8,x18].length:Nat):Int)),(63,.int .i64 x29),(67,Jo .frozen (x38:(List ByteArray))),(68,.int .i64 ((x38.length:Nat):Int)),(69,.int .i64 x41)],[],[],[]⟩) (fun (_:Unit)=>⟨[(9,Jo .full ([[a0.Name],a0.Sections,x8,x18]:(List (List ByteArray)))),(61,Jo .full ([[a0.Name],a0.Sections,x8,x18]:(List (List ByteArray)))),(62,.int .i64 (([[a0.Name],a0.Sections,x8,x18].length:Nat):Int)),(63,.int .i64 x29)],[],[],[]⟩) h61 (by kernel_rfl) (fun _=>by kernel_rfl) ?_ ?_
   ·rintro x41 oh60 h60
    unfold Vt at h60
    refine Ja (Jf (zE (Jc (Ja ?_))))
    rcases Jk h60 with ⟨hb,h60⟩|⟨hb,h60⟩
    ·refine zT hb (Jj (Jc (Ja (Jn (Ja (Jf ?_))))))
     obtain ⟨x44,h62,h60⟩:=Jh h60
     refine zI h62 (zE (Jc (Ja (Jf (zR 1 ?_)))))
     obtain ⟨r45,h63,h60⟩:=Jh h60
     refine Ju (Jgp _ r45 h63) (by kernel_rfl) (by kernel_rfl) (zE (Jc ?_))
     rcases Jk h60 with ⟨hb,h60⟩|⟨hb,h60⟩
     ·refine zT hb (Ja (Jf (zE (Jc (Jp (Jm (Ji ?_)))))))
      cases h60
      refine Kb fun he=>?_
      subst he
      have h64:=Ku h49
      refine Jm (Jm (Ji ?_))
      cases h64
      refine Kb fun he=>?_
      subst he
      have h65:=Ku h
      refine Jm (Ji ?_)
      cases h65
      exact zQ
     refine zU hb (Jj (Kd (Jc (Jf (zE ?_)))))
     cases h60
     exact zB
    refine zU hb (Kc (Jv ?_))
    cases h60
    exact zX
   rintro _ s' rfl hs
   have h49:=Kg h49
   refine Jt (Kd (Jc (Ke hs (Jf (zE ?_)))))
   cases h49
   exact zB
  refine zU hb (Kc (Jv ?_))
  cases h49
  exact zX
 rintro _ s' rfl hs
 have h:=Kg h
 refine Jt (Jc (Ke hs (Ja (Ja (Jf (zR 1 ?_))))))
 refine Kf (L:=([[a0.Name],a0.Sections,x8,x18]:(List (List ByteArray)))) (by kernel_rfl) ?_
 refine zE (Jc (Jn ?_))
 obtain ⟨o91,h91,h⟩:=Kq h
 refine Ki 98 8 (fun x52=>⟨[(78,Jo .full ([[a0.Name],a0.Sections,x8,x18]:(List (List ByteArray)))),(79,.int .i64 (([[a0.Name],a0.Sections,x8,x18].length:Nat):Int)),(80,.int .i64 x52)],[],[],[]⟩) (fun (_:Unit)=>⟨[],[],[],[]⟩) h91 (by kernel_rfl) (fun _=>by kernel_rfl) ?_ ?_
 ·rintro x52 oh90 h90
  unfold Yy at h90
  refine Ja (Jf (zE (Jc (Ja ?_))))
  rcases Jk h90 with ⟨hb,h90⟩|⟨hb,h90⟩
  ·refine zT hb (Jj (Jc (Ja (Jn (Ja (Jf ?_))))))
   obtain ⟨x59,h92,h90⟩:=Jh h90
   refine zI h92 (zE (Jc (Ja (Jf (zE (Jc (Ja (Jf (zR 1 ?_)))))))))
   refine Kf (L:=(x59:(List ByteArray))) (by kernel_rfl) ?_
   refine zE (Jc (Jn ?_))
   obtain ⟨o100,h100,h90⟩:=Kq h90
   refine Ki 98 10 (fun (x61,x62)=>⟨[(16,.mp 84),(78,Jo .full ([[a0.Name],a0.Sections,x8,x18]:(List (List ByteArray)))),(79,.int .i64 (([[a0.Name],a0.Sections,x8,x18].length:Nat):Int)),(80,.int .i64 x52),(85,Jo .frozen (x59:(List ByteArray))),(86,.int .i64 ((x59.length:Nat):Int)),(87,.int .i64 x61)],[(84,.map (Lz (x62:(List (ByteArray×Bool)))))],[],[]⟩) (fun (_:Unit)=>⟨[(78,Jo .full ([[a0.Name],a0.Sections,x8,x18]:(List (List ByteArray)))),(79,.int .i64 (([[a0.Name],a0.Sections,x8,x18].length:Nat):Int)),(80,.int .i64 x52)],[],[],[]⟩) h100 (by kernel_rfl) (fun _=>by kernel_rfl) ?_ ?_
   ·rintro ⟨x61,x62⟩ oh99 h99
    unfold Vs at h99
    refine Ja (Jf (zE (Jc (Ja ?_))))
    rcases Jk h99 with ⟨hb,h99⟩|⟨hb,h99⟩
    ·refine zT hb (Jj (Jc (Ja (Jn (Ja (Jf ?_))))))
     obtain ⟨x64,h101,h99⟩:=Jh h99
     refine zI h101 (zE (Jc (Ja (Ja (Jf (zR 2 ?_))))))
     refine Sd (m:=(x62:(List (ByteArray×Bool)))) (k:=x64) false 84 (by kernel_rfl) (by kernel_rfl) ?_
     refine zN (Jc ?_)
     rcases Jk h99 with ⟨hb,h99⟩|⟨hb,h99⟩
     ·refine zT hb (Ja (Jf (zE (Jc (Jp (Ji (Jm (Ji ?_))))))))
      cases h99
      refine Kb fun he=>?_
      subst he
      have h102:=Ku h90
      refine Jm (Jm (Ji ?_))
      cases h102
      refine Kb fun he=>?_
      subst he
      have h103:=Ku h
      refine Jm (Ji ?_)
      cases h103
      exact zQ
     refine zU hb (Jj (Jc (Jf (zR 2 ?_))))
     refine Jcz (m:=(x62:(List (ByteArray×Bool)))) (k:=x64) (v:=true) 84 (by kernel_rfl) (by kernel_rfl) (by kernel_rfl) ?_
     refine zN (Kd (Jc (Jf (zE ?_))))
     cases h99
     exact zB
    refine zU hb (Kc (Jv ?_))
    cases h99
    exact zX
   rintro _ s' rfl hs
   have h90:=Kg h90
   refine Jt (Kd (Jc (Ke hs (Jf (zE ?_)))))
   cases h90
   exact zB
  refine zU hb (Kc (Jv ?_))
  cases h90
  exact zX
 rintro _ s' rfl hs
 have h:=Kg h
 refine Jt (Jc (Ke hs (Ja (Jf (zE (Jc (Jp ?_)))))))
 cases h
 exact zQ
end PM
