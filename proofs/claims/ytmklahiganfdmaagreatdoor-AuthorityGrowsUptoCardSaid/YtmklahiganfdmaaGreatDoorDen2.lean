/-
 Plain functions for the program's functions, and the proofs that the program does them. Printed by den.py.
-/
import Derived.Test.YtmklahiganfdmaaGreatDoorDen1
namespace PM
open Go Go.RowKit
attribute [local irreducible] Qc pwp
/-! slices.symMergeCmpFunc[api.Linked] -/
noncomputable def Ui (a0:(List Jb)) (a1:Int):(Int×Int)→Option ((Int×Int)⊕(Int⊕(List Jb))):=fun (x6,x7) =>
 bif decide (x6<x7) then (
  (Fc 0 (((a0:(List Jb)).map cellsOf).length) (w64 ((IntKind.u64.wrap (w64 (x6+x7))).fdiv 2))).bind fun j14 =>
  (Eb a0 (((a0:(List Jb)).map cellsOf).length) j14).bind fun x15 =>
  (Fc 0 (((a0:(List Jb)).map cellsOf).length) a1).bind fun j16 =>
  (Eb a0 (((a0:(List Jb)).map cellsOf).length) j16).bind fun x17 =>
  (Wq x15 x17).bind fun r18 =>
  bif decide (r18<0) then (
   some (.inl (w64 ((w64 ((IntKind.u64.wrap (w64 (x6+x7))).fdiv 2))+1),x7))
  ) else (
   some (.inl (x6,w64 ((IntKind.u64.wrap (w64 (x6+x7))).fdiv 2)))
  )
 ) else (
  some (.inr (.inl x6))
 )
noncomputable def Uh (a0:(List Jb)) (x13:Int):(Int×(List Jb))→Option ((Int×(List Jb))⊕((List Jb)⊕(List Jb))):=fun (x27,x28) =>
 bif decide (x27<(w64 (x13 - 1))) then (
  (Fc 0 (((a0:(List Jb)).map cellsOf).length) (w64 (x27+1))).bind fun j38 =>
  (Eb x28 (((a0:(List Jb)).map cellsOf).length) j38).bind fun x39 =>
  (Fc 0 (((a0:(List Jb)).map cellsOf).length) x27).bind fun j40 =>
  (Eb x28 (((a0:(List Jb)).map cellsOf).length) j40).bind fun x41 =>
  (Fc 0 (((a0:(List Jb)).map cellsOf).length) x27).bind fun j42 =>
  (Eb x28 (((a0:(List Jb)).map cellsOf).length) j42).bind fun x43 =>
  (Fc 0 (((a0:(List Jb)).map cellsOf).length) (w64 (x27+1))).bind fun j44 =>
  (Eb (x28.set j42 x39) (((a0:(List Jb)).map cellsOf).length) j44).bind fun x45 =>
  some (.inl (w64 (x27+1),((x28.set j42 x39).set j44 x41)))
 ) else (
  some (.inr (.inl x28))
 )
noncomputable def Ug (a0:(List Jb)) (a2:Int):(Int×Int)→Option ((Int×Int)⊕(Int⊕(List Jb))):=fun (x51,x52) =>
 bif decide (x51<x52) then (
  (Fc 0 (((a0:(List Jb)).map cellsOf).length) a2).bind fun j59 =>
  (Eb a0 (((a0:(List Jb)).map cellsOf).length) j59).bind fun x60 =>
  (Fc 0 (((a0:(List Jb)).map cellsOf).length) (w64 ((IntKind.u64.wrap (w64 (x51+x52))).fdiv 2))).bind fun j61 =>
  (Eb a0 (((a0:(List Jb)).map cellsOf).length) j61).bind fun x62 =>
  (Wq x60 x62).bind fun r63 =>
  bif (!(decide (r63<0))) then (
   some (.inl (w64 ((w64 ((IntKind.u64.wrap (w64 (x51+x52))).fdiv 2))+1),x52))
  ) else (
   some (.inl (x51,w64 ((IntKind.u64.wrap (w64 (x51+x52))).fdiv 2)))
  )
 ) else (
  some (.inr (.inl x51))
 )
noncomputable def Uf (a0:(List Jb)) (x58:Int):(Int×(List Jb))→Option ((Int×(List Jb))⊕((List Jb)⊕(List Jb))):=fun (x72,x73) =>
 bif decide (x58<x72) then (
  (Fc 0 (((a0:(List Jb)).map cellsOf).length) (w64 (x72 - 1))).bind fun j83 =>
  (Eb x73 (((a0:(List Jb)).map cellsOf).length) j83).bind fun x84 =>
  (Fc 0 (((a0:(List Jb)).map cellsOf).length) x72).bind fun j85 =>
  (Eb x73 (((a0:(List Jb)).map cellsOf).length) j85).bind fun x86 =>
  (Fc 0 (((a0:(List Jb)).map cellsOf).length) x72).bind fun j87 =>
  (Eb x73 (((a0:(List Jb)).map cellsOf).length) j87).bind fun x88 =>
  (Fc 0 (((a0:(List Jb)).map cellsOf).length) (w64 (x72 - 1))).bind fun j89 =>
  (Eb (x73.set j87 x84) (((a0:(List Jb)).map cellsOf).length) j89).bind fun x90 =>
  some (.inl (w64 (x72 - 1),((x73.set j87 x84).set j89 x86)))
 ) else (
  some (.inr (.inl x73))
 )
noncomputable def Qk (a0:(List Jb)) (a1:Int) (a2:Int) (a3:Int):(Int×Int)→Option ((Int×Int)⊕(Int⊕(List Jb))):=fun (x98,x99) =>
 bif decide (x98<x99) then (
  (Fc 0 (((a0:(List Jb)).map cellsOf).length) (w64 ((w64 ((w64 ((w64 ((IntKind.u64.wrap (w64 (a1+a3))).fdiv 2))+a2)) - 1)) - (w64 ((IntKind.u64.wrap (w64 (x98+x99))).fdiv 2))))).bind fun j106 =>
  (Eb a0 (((a0:(List Jb)).map cellsOf).length) j106).bind fun x107 =>
  (Fc 0 (((a0:(List Jb)).map cellsOf).length) (w64 ((IntKind.u64.wrap (w64 (x98+x99))).fdiv 2))).bind fun j108 =>
  (Eb a0 (((a0:(List Jb)).map cellsOf).length) j108).bind fun x109 =>
  (Wq x107 x109).bind fun r110 =>
  bif (!(decide (r110<0))) then (
   some (.inl (w64 ((w64 ((IntKind.u64.wrap (w64 (x98+x99))).fdiv 2))+1),x99))
  ) else (
   some (.inl (x98,w64 ((IntKind.u64.wrap (w64 (x98+x99))).fdiv 2)))
  )
 ) else (
  some (.inr (.inl x98))
 )
noncomputable def Kc (rc_d_slices_symMergeCmpFunc_api_Linked__linking_Of_c1:(List Jb)→Int→Int→Int→Option (List Jb)) (a0:(List Jb)) (a1:Int) (a2:Int) (a3:Int):Option (List Jb) :=
 bif decide ((w64 (a2 - a1))=1) then (
  onInl (α:=Int) (β:=(List Jb)) (Km (Ui a0 a1) (a2,a3)) fun x13 =>
  onInl (α:=(List Jb)) (β:=(List Jb)) (Km (Uh a0 x13) (a1,a0)) fun x37 =>
  some x37
 ) else (
  bif decide ((w64 (a3 - a2))=1) then (
   onInl (α:=Int) (β:=(List Jb)) (Km (Ug a0 a2) (a1,a2)) fun x58 =>
   onInl (α:=(List Jb)) (β:=(List Jb)) (Km (Uf a0 x58) (a2,a0)) fun x82 =>
   some x82
  ) else (
   onInl (α:=(Int×Int)) (β:=(List Jb)) (
    bif decide ((w64 ((IntKind.u64.wrap (w64 (a1+a3))).fdiv 2))<a2) then (
     some (.inl (w64 ((w64 ((w64 ((IntKind.u64.wrap (w64 (a1+a3))).fdiv 2))+a2)) - a3),w64 ((IntKind.u64.wrap (w64 (a1+a3))).fdiv 2)))
    ) else (
     some (.inl (a1,a2))
    )
   ) fun (x91,x92) =>
   onInl (α:=Int) (β:=(List Jb)) (Km (Qk a0 a1 a2 a3) (x91,x92)) fun x105 =>
   onInl (α:=(List Jb)) (β:=(List Jb)) (
    bif ((decide (x105<a2))&&(decide (a2<(w64 ((w64 ((w64 ((IntKind.u64.wrap (w64 (a1+a3))).fdiv 2))+a2)) - x105))))) then (
     (Qe a0 x105 a2 (w64 ((w64 ((w64 ((IntKind.u64.wrap (w64 (a1+a3))).fdiv 2))+a2)) - x105))).bind fun r113 =>
     some (.inl r113)
    ) else (
     some (.inl a0)
    )
   ) fun x112 =>
   onInl (α:=(List Jb)) (β:=(List Jb)) (
    bif ((decide (a1<x105))&&(decide (x105<(w64 ((IntKind.u64.wrap (w64 (a1+a3))).fdiv 2))))) then (
     (rc_d_slices_symMergeCmpFunc_api_Linked__linking_Of_c1 x112 a1 x105 (w64 ((IntKind.u64.wrap (w64 (a1+a3))).fdiv 2))).bind fun r116 =>
     some (.inl r116)
    ) else (
     some (.inl x112)
    )
   ) fun x115 =>
   bif ((decide ((w64 ((IntKind.u64.wrap (w64 (a1+a3))).fdiv 2))<(w64 ((w64 ((w64 ((IntKind.u64.wrap (w64 (a1+a3))).fdiv 2))+a2)) - x105))))&&(decide ((w64 ((w64 ((w64 ((IntKind.u64.wrap (w64 (a1+a3))).fdiv 2))+a2)) - x105))<a3))) then (
    (rc_d_slices_symMergeCmpFunc_api_Linked__linking_Of_c1 x115 (w64 ((IntKind.u64.wrap (w64 (a1+a3))).fdiv 2)) (w64 ((w64 ((w64 ((IntKind.u64.wrap (w64 (a1+a3))).fdiv 2))+a2)) - x105)) a3).bind fun r117 =>
    some r117
   ) else (
    some x115
   )
  )
 )
theorem Ux (rc_d_slices_symMergeCmpFunc_api_Linked__linking_Of_c1:(List Jb)→Int→Int→Int→Option (List Jb)) (hrc_d_slices_symMergeCmpFunc_api_Linked__linking_Of_c1:∀ (a0:(List Jb)) (a1:Int) (a2:Int) (a3:Int) (r:(List Jb)),rc_d_slices_symMergeCmpFunc_api_Linked__linking_Of_c1 a0 a1 a2 a3=some r→Xv Go.Proofs.Tryz.prog GlS 132 2 16 (a0.map cellsOf) [Enc.pv a1,Enc.pv a2,Enc.pv a3,.fn 77 []] none (r.map cellsOf)) (a0:(List Jb)) (a1:Int) (a2:Int) (a3:Int) (r:(List Jb)) (h:Kc rc_d_slices_symMergeCmpFunc_api_Linked__linking_Of_c1 a0 a1 a2 a3=some r):Xv Go.Proofs.Tryz.prog GlS 132 2 16 (a0.map cellsOf) [Enc.pv a1,Enc.pv a2,Enc.pv a3,.fn 77 []] none (r.map cellsOf):=by
 unfold Kc at h
 refine Dz Go.Proofs.Tryz.func132 (by rfl) rfl Go.Proofs.Tryz.ntmps132 (by rfl) rfl ?_
 refine Ja (Ja (Jg (zE (Jc ?_))))
 rcases Jl h with ⟨hb,h⟩|⟨hb,h⟩
 ·refine zT hb (Ja (Jg (zE (Jc (Ja (Jg (zE (Jc (Ja (Jo ?_))))))))))
  obtain ⟨o12,h12,h⟩:=Ko h
  refine Kh 220 0 (fun (x6,x7)=>⟨[(0,.ex 1000000000 2 16 (((a0:(List Jb)).map cellsOf).length) 0 (((a0:(List Jb)).map cellsOf).length)),(1,.int .i64 a1),(4,.fn 77 []),(10,.int .i64 x6),(11,.int .i64 x7)],[],[(1000000000,(((a0:(List Jb)).map cellsOf).length,0))],[(1000000000,(2,(16,(a0:(List Jb)).map cellsOf)))]⟩) (fun x13=>⟨[(0,.ex 1000000000 2 16 (((a0:(List Jb)).map cellsOf).length) 0 (((a0:(List Jb)).map cellsOf).length)),(1,.int .i64 a1),(10,.int .i64 x13)],[],[(1000000000,(((a0:(List Jb)).map cellsOf).length,0))],[(1000000000,(2,(16,(a0:(List Jb)).map cellsOf)))]⟩) h12 (by kernel_rfl) (fun _=>by kernel_rfl) ?_ ?_
  ·rintro ⟨x6,x7⟩ oh11 h11
   unfold Ui at h11
   refine Ja (Ja (Jg (zE (Jc ?_))))
   rcases Jl h11 with ⟨hb,h11⟩|⟨hb,h11⟩
   ·refine zT hb (Jk (Jc (Jo (Ja (Jg (zE (Jc (Ja (Qb (by kernel_rfl) (by kernel_rfl) (zR 3 ?_))))))))))
    obtain ⟨j14,h13,h11⟩:=Ji h11
    refine Bw (tk:=1000000000) (k:=2) (N:=((a0:(List Jb)).map cellsOf).length) h13 (by kernel_rfl) ?_
    obtain ⟨x15,h14,h11⟩:=Ji h11
    refine Na (L:=(a0:(List Jb))) (N:=((a0:(List Jb)).map cellsOf).length) (j:=j14) (y:=x15) (v:=Enc.pv x15) h14 true 2 0 (by kernel_rfl) (by kernel_rfl) ?_
    refine zR 2 ?_
    obtain ⟨j16,h15,h11⟩:=Ji h11
    refine Bw (tk:=1000000000) (k:=2) (N:=((a0:(List Jb)).map cellsOf).length) h15 (by kernel_rfl) ?_
    obtain ⟨x17,h16,h11⟩:=Ji h11
    refine Na (L:=(a0:(List Jb))) (N:=((a0:(List Jb)).map cellsOf).length) (j:=j16) (y:=x17) (v:=Enc.pv x17) h16 true 2 0 (by kernel_rfl) (by kernel_rfl) ?_
    obtain ⟨r18,h17,h11⟩:=Ji h11
    refine Jy (Dd _ _ r18 h17) (by kernel_rfl) (by kernel_rfl) (zE (Jc ?_))
    rcases Jl h11 with ⟨hb,h11⟩|⟨hb,h11⟩
    ·refine zT hb (Jg (zE (Kb ?_)))
     cases h11
     exact zB
    refine zU hb (Jg (zE (Kb ?_)))
    cases h11
    exact zB
   refine zU hb (Ka (Jx ?_))
   cases h11
   exact zX
  rintro x13 s' rfl hs
  have h:=Kd h
  refine Jv (Jc (Ke hs (Ja (Ja (Jg (zE (Jc (Jo ?_))))))))
  obtain ⟨o35,h35,h⟩:=Ko h
  refine Kh 220 2 (fun (x27,x28)=>⟨[(0,.ex 1000000000 2 16 (((a0:(List Jb)).map cellsOf).length) 0 (((a0:(List Jb)).map cellsOf).length)),(10,.int .i64 x13),(13,.int .i64 x27)],[],[(1000000000,(((a0:(List Jb)).map cellsOf).length,0))],[(1000000000,(2,(16,(x28:(List Jb)).map cellsOf)))]⟩) (fun x37=>⟨[],[],[(1000000000,(((a0:(List Jb)).map cellsOf).length,0))],[(1000000000,(2,(16,(x37:(List Jb)).map cellsOf)))]⟩) h35 (by kernel_rfl) (fun _=>by kernel_rfl) ?_ ?_
  ·rintro ⟨x27,x28⟩ oh34 h34
   unfold Uh at h34
   refine Ja (Ja (Jg (zE (Jc ?_))))
   rcases Jl h34 with ⟨hb,h34⟩|⟨hb,h34⟩
   ·refine zT hb (Jk (Jc (Ja (Jo (Qb (by kernel_rfl) (by kernel_rfl) (zR 8 ?_))))))
    obtain ⟨j38,h36,h34⟩:=Ji h34
    refine Bw (tk:=1000000000) (k:=2) (N:=((a0:(List Jb)).map cellsOf).length) h36 (by kernel_rfl) ?_
    obtain ⟨x39,h37,h34⟩:=Ji h34
    refine Na (L:=(x28:(List Jb))) (N:=((a0:(List Jb)).map cellsOf).length) (j:=j38) (y:=x39) (v:=Enc.pv x39) h37 true 2 0 (by kernel_rfl) (by kernel_rfl) ?_
    refine zR 2 ?_
    obtain ⟨j40,h38,h34⟩:=Ji h34
    refine Bw (tk:=1000000000) (k:=2) (N:=((a0:(List Jb)).map cellsOf).length) h38 (by kernel_rfl) ?_
    obtain ⟨x41,h39,h34⟩:=Ji h34
    refine Na (L:=(x28:(List Jb))) (N:=((a0:(List Jb)).map cellsOf).length) (j:=j40) (y:=x41) (v:=Enc.pv x41) h39 true 2 0 (by kernel_rfl) (by kernel_rfl) ?_
    obtain ⟨j42,h40,h34⟩:=Ji h34
    refine Bw (tk:=1000000000) (k:=2) (N:=((a0:(List Jb)).map cellsOf).length) h40 (by kernel_rfl) ?_
    obtain ⟨x43,h41,h34⟩:=Ji h34
    refine Jiy (L:=(x28:(List Jb))) (tk:=1000000000) (N:=((a0:(List Jb)).map cellsOf).length) (j:=j42) (y:=x43) (y':=x39) h41 0 2 [.int .i64 x39.Id,.int .i64 x39.At] (by kernel_rfl) (by kernel_rfl) ?_
    obtain ⟨j44,h42,h34⟩:=Ji h34
    refine Bw (tk:=1000000000) (k:=2) (N:=((a0:(List Jb)).map cellsOf).length) h42 (by kernel_rfl) ?_
    obtain ⟨x45,h43,h34⟩:=Ji h34
    refine Jiy (L:=((x28.set j42 x39):(List Jb))) (tk:=1000000000) (N:=((a0:(List Jb)).map cellsOf).length) (j:=j44) (y:=x45) (y':=x41) h43 0 2 [.int .i64 x41.Id,.int .i64 x41.At] (by kernel_rfl) (by kernel_rfl) ?_
    refine zN (Kb (Jc (Jg (zE ?_))))
    cases h34
    exact zB
   refine zU hb (Ka (Jx ?_))
   cases h34
   exact zX
  rintro x37 s' rfl hs
  have h:=Kd h
  refine Jv (Jc (Ke hs (Jq (Jn ?_))))
  cases h
  exact Jdj (by kernel_rfl)
 refine zU hb (Jk (Jc (Ja (Ja (Jg (zE (Jc ?_)))))))
 rcases Jl h with ⟨hb,h⟩|⟨hb,h⟩
 ·refine zT hb (Ja (Jg (zE (Jc (Ja (Jg (zE (Jc (Ja (Jo ?_))))))))))
  obtain ⟨o55,h55,h⟩:=Ko h
  refine Kh 220 4 (fun (x51,x52)=>⟨[(0,.ex 1000000000 2 16 (((a0:(List Jb)).map cellsOf).length) 0 (((a0:(List Jb)).map cellsOf).length)),(2,.int .i64 a2),(4,.fn 77 []),(14,.int .i64 x51),(15,.int .i64 x52)],[],[(1000000000,(((a0:(List Jb)).map cellsOf).length,0))],[(1000000000,(2,(16,(a0:(List Jb)).map cellsOf)))]⟩) (fun x58=>⟨[(0,.ex 1000000000 2 16 (((a0:(List Jb)).map cellsOf).length) 0 (((a0:(List Jb)).map cellsOf).length)),(2,.int .i64 a2),(14,.int .i64 x58)],[],[(1000000000,(((a0:(List Jb)).map cellsOf).length,0))],[(1000000000,(2,(16,(a0:(List Jb)).map cellsOf)))]⟩) h55 (by kernel_rfl) (fun _=>by kernel_rfl) ?_ ?_
  ·rintro ⟨x51,x52⟩ oh54 h54
   unfold Ug at h54
   refine Ja (Ja (Jg (zE (Jc ?_))))
   rcases Jl h54 with ⟨hb,h54⟩|⟨hb,h54⟩
   ·refine zT hb (Jk (Jc (Jo (Ja (Jg (zE (Jc (Ja (Qb (by kernel_rfl) (by kernel_rfl) (zR 3 ?_))))))))))
    obtain ⟨j59,h56,h54⟩:=Ji h54
    refine Bw (tk:=1000000000) (k:=2) (N:=((a0:(List Jb)).map cellsOf).length) h56 (by kernel_rfl) ?_
    obtain ⟨x60,h57,h54⟩:=Ji h54
    refine Na (L:=(a0:(List Jb))) (N:=((a0:(List Jb)).map cellsOf).length) (j:=j59) (y:=x60) (v:=Enc.pv x60) h57 true 2 0 (by kernel_rfl) (by kernel_rfl) ?_
    refine zR 2 ?_
    obtain ⟨j61,h58,h54⟩:=Ji h54
    refine Bw (tk:=1000000000) (k:=2) (N:=((a0:(List Jb)).map cellsOf).length) h58 (by kernel_rfl) ?_
    obtain ⟨x62,h59,h54⟩:=Ji h54
    refine Na (L:=(a0:(List Jb))) (N:=((a0:(List Jb)).map cellsOf).length) (j:=j61) (y:=x62) (v:=Enc.pv x62) h59 true 2 0 (by kernel_rfl) (by kernel_rfl) ?_
    obtain ⟨r63,h60,h54⟩:=Ji h54
    refine Jy (Dd _ _ r63 h60) (by kernel_rfl) (by kernel_rfl) (zE (Jc ?_))
    rcases Jl h54 with ⟨hb,h54⟩|⟨hb,h54⟩
    ·refine zT hb (Jg (zE (Kb ?_)))
     cases h54
     exact zB
    refine zU hb (Jg (zE (Kb ?_)))
    cases h54
    exact zB
   refine zU hb (Ka (Jx ?_))
   cases h54
   exact zX
  rintro x58 s' rfl hs
  have h:=Kd h
  refine Jv (Jc (Ke hs (Ja (Ja (Jg (zE (Jc (Jo ?_))))))))
  obtain ⟨o78,h78,h⟩:=Ko h
  refine Kh 220 6 (fun (x72,x73)=>⟨[(0,.ex 1000000000 2 16 (((a0:(List Jb)).map cellsOf).length) 0 (((a0:(List Jb)).map cellsOf).length)),(14,.int .i64 x58),(17,.int .i64 x72)],[],[(1000000000,(((a0:(List Jb)).map cellsOf).length,0))],[(1000000000,(2,(16,(x73:(List Jb)).map cellsOf)))]⟩) (fun x82=>⟨[],[],[(1000000000,(((a0:(List Jb)).map cellsOf).length,0))],[(1000000000,(2,(16,(x82:(List Jb)).map cellsOf)))]⟩) h78 (by kernel_rfl) (fun _=>by kernel_rfl) ?_ ?_
  ·rintro ⟨x72,x73⟩ oh77 h77
   unfold Uf at h77
   refine Ja (Ja (Jg (zE (Jc ?_))))
   rcases Jl h77 with ⟨hb,h77⟩|⟨hb,h77⟩
   ·refine zT hb (Jk (Jc (Ja (Jo (Qb (by kernel_rfl) (by kernel_rfl) (zR 8 ?_))))))
    obtain ⟨j83,h79,h77⟩:=Ji h77
    refine Bw (tk:=1000000000) (k:=2) (N:=((a0:(List Jb)).map cellsOf).length) h79 (by kernel_rfl) ?_
    obtain ⟨x84,h80,h77⟩:=Ji h77
    refine Na (L:=(x73:(List Jb))) (N:=((a0:(List Jb)).map cellsOf).length) (j:=j83) (y:=x84) (v:=Enc.pv x84) h80 true 2 0 (by kernel_rfl) (by kernel_rfl) ?_
    refine zR 2 ?_
    obtain ⟨j85,h81,h77⟩:=Ji h77
    refine Bw (tk:=1000000000) (k:=2) (N:=((a0:(List Jb)).map cellsOf).length) h81 (by kernel_rfl) ?_
    obtain ⟨x86,h82,h77⟩:=Ji h77
    refine Na (L:=(x73:(List Jb))) (N:=((a0:(List Jb)).map cellsOf).length) (j:=j85) (y:=x86) (v:=Enc.pv x86) h82 true 2 0 (by kernel_rfl) (by kernel_rfl) ?_
    obtain ⟨j87,h83,h77⟩:=Ji h77
    refine Bw (tk:=1000000000) (k:=2) (N:=((a0:(List Jb)).map cellsOf).length) h83 (by kernel_rfl) ?_
    obtain ⟨x88,h84,h77⟩:=Ji h77
    refine Jiy (L:=(x73:(List Jb))) (tk:=1000000000) (N:=((a0:(List Jb)).map cellsOf).length) (j:=j87) (y:=x88) (y':=x84) h84 0 2 [.int .i64 x84.Id,.int .i64 x84.At] (by kernel_rfl) (by kernel_rfl) ?_
    obtain ⟨j89,h85,h77⟩:=Ji h77
    refine Bw (tk:=1000000000) (k:=2) (N:=((a0:(List Jb)).map cellsOf).length) h85 (by kernel_rfl) ?_
    obtain ⟨x90,h86,h77⟩:=Ji h77
    refine Jiy (L:=((x73.set j87 x84):(List Jb))) (tk:=1000000000) (N:=((a0:(List Jb)).map cellsOf).length) (j:=j89) (y:=x90) (y':=x86) h86 0 2 [.int .i64 x86.Id,.int .i64 x86.At] (by kernel_rfl) (by kernel_rfl) ?_
    refine zN (Kb (Jc (Jg (zE ?_))))
    cases h77
    exact zB
   refine zU hb (Ka (Jx ?_))
   cases h77
   exact zX
  rintro x82 s' rfl hs
  have h:=Kd h
  refine Jv (Jc (Ke hs (Jq (Jn ?_))))
  cases h
  exact Jdj (by kernel_rfl)
 refine zU hb (Jk (Jc (Ja (Jg (zE (Jc (Ja (Jg (zE (Jc (Ja (Jg (zE (Jc ?_))))))))))))))
 obtain ⟨o87,h87,h⟩:=Ko h
 refine Um (o:=o87) 220 (fun (x91,x92)=>⟨[(0,.ex 1000000000 2 16 (((a0:(List Jb)).map cellsOf).length) 0 (((a0:(List Jb)).map cellsOf).length)),(1,.int .i64 a1),(2,.int .i64 a2),(3,.int .i64 a3),(4,.fn 77 []),(18,.int .i64 (w64 ((IntKind.u64.wrap (w64 (a1+a3))).fdiv 2))),(19,.int .i64 (w64 ((w64 ((IntKind.u64.wrap (w64 (a1+a3))).fdiv 2))+a2))),(20,.int .i64 x91),(21,.int .i64 x92)],[],[(1000000000,(((a0:(List Jb)).map cellsOf).length,0))],[(1000000000,(2,(16,(a0:(List Jb)).map cellsOf)))]⟩) ?_ ?_
 ·refine Ja (Jg (zE (Jc ?_)))
  rcases Jl h87 with ⟨hb,h87⟩|⟨hb,h87⟩
  ·refine zT hb (Ja (Jg (zE (Jc (Jg (zE ?_))))))
   cases h87
   exact zJ
  refine zU hb (Ja (Jg (zE (Jc (Jg (zE ?_))))))
  cases h87
  exact zJ
 rintro ⟨x91,x92⟩ rfl
 have h:=Kd h
 refine Ja (Jg (zE (Jc (Ja (Jo ?_)))))
 obtain ⟨o99,h99,h⟩:=Ko h
 refine Kh 220 8 (fun (x98,x99)=>⟨[(0,.ex 1000000000 2 16 (((a0:(List Jb)).map cellsOf).length) 0 (((a0:(List Jb)).map cellsOf).length)),(1,.int .i64 a1),(2,.int .i64 a2),(3,.int .i64 a3),(4,.fn 77 []),(18,.int .i64 (w64 ((IntKind.u64.wrap (w64 (a1+a3))).fdiv 2))),(19,.int .i64 (w64 ((w64 ((IntKind.u64.wrap (w64 (a1+a3))).fdiv 2))+a2))),(20,.int .i64 x98),(21,.int .i64 x99),(22,.int .i64 (w64 ((w64 ((w64 ((IntKind.u64.wrap (w64 (a1+a3))).fdiv 2))+a2)) - 1)))],[],[(1000000000,(((a0:(List Jb)).map cellsOf).length,0))],[(1000000000,(2,(16,(a0:(List Jb)).map cellsOf)))]⟩) (fun x105=>⟨[(0,.ex 1000000000 2 16 (((a0:(List Jb)).map cellsOf).length) 0 (((a0:(List Jb)).map cellsOf).length)),(1,.int .i64 a1),(2,.int .i64 a2),(3,.int .i64 a3),(4,.fn 77 []),(18,.int .i64 (w64 ((IntKind.u64.wrap (w64 (a1+a3))).fdiv 2))),(19,.int .i64 (w64 ((w64 ((IntKind.u64.wrap (w64 (a1+a3))).fdiv 2))+a2))),(20,.int .i64 x105)],[],[(1000000000,(((a0:(List Jb)).map cellsOf).length,0))],[(1000000000,(2,(16,(a0:(List Jb)).map cellsOf)))]⟩) h99 (by kernel_rfl) (fun _=>by kernel_rfl) ?_ ?_
 ·rintro ⟨x98,x99⟩ oh98 h98
  unfold Qk at h98
  refine Ja (Ja (Jg (zE (Jc ?_))))
  rcases Jl h98 with ⟨hb,h98⟩|⟨hb,h98⟩
  ·refine zT hb (Jk (Jc (Jo (Ja (Jg (zE (Jc (Ja (Qb (by kernel_rfl) (by kernel_rfl) (zR 5 ?_))))))))))
   obtain ⟨j106,h100,h98⟩:=Ji h98
   refine Bw (tk:=1000000000) (k:=2) (N:=((a0:(List Jb)).map cellsOf).length) h100 (by kernel_rfl) ?_
   obtain ⟨x107,h101,h98⟩:=Ji h98
   refine Na (L:=(a0:(List Jb))) (N:=((a0:(List Jb)).map cellsOf).length) (j:=j106) (y:=x107) (v:=Enc.pv x107) h101 true 2 0 (by kernel_rfl) (by kernel_rfl) ?_
   refine zR 2 ?_
   obtain ⟨j108,h102,h98⟩:=Ji h98
   refine Bw (tk:=1000000000) (k:=2) (N:=((a0:(List Jb)).map cellsOf).length) h102 (by kernel_rfl) ?_
   obtain ⟨x109,h103,h98⟩:=Ji h98
   refine Na (L:=(a0:(List Jb))) (N:=((a0:(List Jb)).map cellsOf).length) (j:=j108) (y:=x109) (v:=Enc.pv x109) h103 true 2 0 (by kernel_rfl) (by kernel_rfl) ?_
   obtain ⟨r110,h104,h98⟩:=Ji h98
   refine Jy (Dd _ _ r110 h104) (by kernel_rfl) (by kernel_rfl) (zE (Jc ?_))
   rcases Jl h98 with ⟨hb,h98⟩|⟨hb,h98⟩
   ·refine zT hb (Jg (zE (Kb ?_)))
    cases h98
    exact zB
   refine zU hb (Jg (zE (Kb ?_)))
   cases h98
   exact zB
  refine zU hb (Ka (Jx ?_))
  cases h98
  exact zX
 rintro x105 s' rfl hs
 have h:=Kd h
 refine Jv (Jc (Ke hs (Ja (Jg (zE (Jc ?_))))))
 obtain ⟨o106,h106,h⟩:=Ko h
 refine Um (o:=o106) 220 (fun x112=>⟨[(0,.ex 1000000000 2 16 (((a0:(List Jb)).map cellsOf).length) 0 (((a0:(List Jb)).map cellsOf).length)),(1,.int .i64 a1),(3,.int .i64 a3),(4,.fn 77 []),(18,.int .i64 (w64 ((IntKind.u64.wrap (w64 (a1+a3))).fdiv 2))),(20,.int .i64 x105),(24,.int .i64 (w64 ((w64 ((w64 ((IntKind.u64.wrap (w64 (a1+a3))).fdiv 2))+a2)) - x105)))],[],[(1000000000,(((a0:(List Jb)).map cellsOf).length,0))],[(1000000000,(2,(16,(x112:(List Jb)).map cellsOf)))]⟩) ?_ ?_
 ·refine Ja (Jg (zR 4 ?_))
  refine Kx 4 185 ((decide (x105<a2))&&(decide (a2<(w64 ((w64 ((w64 ((IntKind.u64.wrap (w64 (a1+a3))).fdiv 2))+a2)) - x105))))) (fun x hx=>?_) ?_
  ·rcases Wb hx with ⟨hb,hx⟩|⟨hb,hx⟩
   ·refine zS 181 hb ?_
    subst hx
    exact zF
   refine zS 181 hb ?_
   subst hx
   exact zF
  refine zN (Jc ?_)
  rcases Jl h106 with ⟨hb,h106⟩|⟨hb,h106⟩
  ·refine zT hb (Jg (zR 5 ?_))
   obtain ⟨r113,h107,h106⟩:=Ji h106
   refine Ia (t:=1000000000) (L:=(a0:(List Jb))) (L':=(r113:(List Jb))) (N:=((a0:(List Jb)).map cellsOf).length) (by kernel_rfl) (by kernel_rfl) (by kernel_rfl) (Zb _ _ _ _ r113 h107) ?_
   refine zN ?_
   cases h106
   exact zJ
  refine zU hb (Jk ?_)
  cases h106
  exact zJ
 rintro x112 rfl
 have h:=Kd h
 obtain ⟨o109,h109,h⟩:=Ko h
 refine Um (o:=o109) 220 (fun x115=>⟨[(0,.ex 1000000000 2 16 (((a0:(List Jb)).map cellsOf).length) 0 (((a0:(List Jb)).map cellsOf).length)),(3,.int .i64 a3),(4,.fn 77 []),(18,.int .i64 (w64 ((IntKind.u64.wrap (w64 (a1+a3))).fdiv 2))),(24,.int .i64 (w64 ((w64 ((w64 ((IntKind.u64.wrap (w64 (a1+a3))).fdiv 2))+a2)) - x105)))],[],[(1000000000,(((a0:(List Jb)).map cellsOf).length,0))],[(1000000000,(2,(16,(x115:(List Jb)).map cellsOf)))]⟩) ?_ ?_
 ·refine Ja (Jg (zR 4 ?_))
  refine Kx 4 199 ((decide (a1<x105))&&(decide (x105<(w64 ((IntKind.u64.wrap (w64 (a1+a3))).fdiv 2))))) (fun x hx=>?_) ?_
  ·rcases Wb hx with ⟨hb,hx⟩|⟨hb,hx⟩
   ·refine zS 195 hb ?_
    subst hx
    exact zF
   refine zS 195 hb ?_
   subst hx
   exact zF
  refine zN (Jc ?_)
  rcases Jl h109 with ⟨hb,h109⟩|⟨hb,h109⟩
  ·refine zT hb (Jg (zR 5 ?_))
   obtain ⟨r116,h110,h109⟩:=Ji h109
   refine Ia (t:=1000000000) (L:=(x112:(List Jb))) (L':=(r116:(List Jb))) (N:=((a0:(List Jb)).map cellsOf).length) (by kernel_rfl) (by kernel_rfl) (by kernel_rfl) (hrc_d_slices_symMergeCmpFunc_api_Linked__linking_Of_c1 _ _ _ _ r116 h110) ?_
   refine zN ?_
   cases h109
   exact zJ
  refine zU hb (Jk ?_)
  cases h109
  exact zJ
 rintro x115 rfl
 have h:=Kd h
 refine Ja (Jg (zR 4 ?_))
 refine Kx 4 213 ((decide ((w64 ((IntKind.u64.wrap (w64 (a1+a3))).fdiv 2))<(w64 ((w64 ((w64 ((IntKind.u64.wrap (w64 (a1+a3))).fdiv 2))+a2)) - x105))))&&(decide ((w64 ((w64 ((w64 ((IntKind.u64.wrap (w64 (a1+a3))).fdiv 2))+a2)) - x105))<a3))) (fun x hx=>?_) ?_
 ·rcases Wb hx with ⟨hb,hx⟩|⟨hb,hx⟩
  ·refine zS 209 hb ?_
   subst hx
   exact zF
  refine zS 209 hb ?_
  subst hx
  exact zF
 refine zN (Jc ?_)
 rcases Jl h with ⟨hb,h⟩|⟨hb,h⟩
 ·refine zT hb (Jg (zR 5 ?_))
  obtain ⟨r117,h111,h⟩:=Ji h
  refine Ia (t:=1000000000) (L:=(x115:(List Jb))) (L':=(r117:(List Jb))) (N:=((a0:(List Jb)).map cellsOf).length) (by kernel_rfl) (by kernel_rfl) (by kernel_rfl) (hrc_d_slices_symMergeCmpFunc_api_Linked__linking_Of_c1 _ _ _ _ r117 h111) ?_
  refine zN ?_
  cases h
  exact Jdj (by kernel_rfl)
 refine zU hb (Jk ?_)
 cases h
 exact Jdj (by kernel_rfl)
noncomputable def Ks (n:Nat):(List Jb)→Int→Int→Int→Option (List Jb):=Nat.rec (fun _ _ _ _=>none) (fun _ ih=>Kc ih) n
theorem Uy : ∀ (n:Nat) (a0:(List Jb)) (a1:Int) (a2:Int) (a3:Int) (r:(List Jb)),Ks n a0 a1 a2 a3=some r→Xv Go.Proofs.Tryz.prog GlS 132 2 16 (a0.map cellsOf) [Enc.pv a1,Enc.pv a2,Enc.pv a3,.fn 77 []] none (r.map cellsOf)
 | 0,_,_,_,_,_,h=>by cases h
 | n+1,a0,a1,a2,a3,r,h=>Ux (Ks n) (Uy n) a0 a1 a2 a3 r h
noncomputable def Qr (a0:(List Jb)) (a1:Int) (a2:Int) (a3:Int):Option (List Jb):=Kc (Ks Nl) a0 a1 a2 a3
theorem Vd (a0:(List Jb)) (a1:Int) (a2:Int) (a3:Int) (r:(List Jb)) (h:Qr a0 a1 a2 a3=some r):Xv Go.Proofs.Tryz.prog GlS 132 2 16 (a0.map cellsOf) [Enc.pv a1,Enc.pv a2,Enc.pv a3,.fn 77 []] none (r.map cellsOf):=Ux (Ks Nl) (Uy Nl) a0 a1 a2 a3 r h
/-! slices.stableCmpFunc[api.Linked] -/
noncomputable def Qx (a1:Int):(Int×Int×(List Jb))→Option ((Int×Int×(List Jb))⊕(((List Jb)×Int)⊕(List Jb))):=fun (x2,x3,x4) =>
 bif decide (x3≤a1) then (
  (Kv x4 x2 x3).bind fun r8 =>
  some (.inl (x3,w64 (x3+20),r8))
 ) else (
  some (.inr (.inl (x4,x2)))
 )
noncomputable def Vw (a1:Int) (x21:Int):(Int×Int×(List Jb))→Option ((Int×Int×(List Jb))⊕(((List Jb)×Int)⊕((Int×(List Jb))⊕((List Jb)⊕(List Jb))))):=fun (x36,x37,x38) =>
 bif decide (x37≤a1) then (
  (Qr x38 x36 (w64 (x36+x21)) x37).bind fun r42 =>
  some (.inl (x37,w64 (x37+(w64 (2 * x21))),r42))
 ) else (
  some (.inr (.inl (x38,x36)))
 )
noncomputable def Qv (a1:Int):(Int×(List Jb))→Option ((Int×(List Jb))⊕((List Jb)⊕(List Jb))):=fun (x21,x22) =>
 bif decide (x21<a1) then (
  onInl (α:=((List Jb)×Int)) (β:=((Int×(List Jb))⊕((List Jb)⊕(List Jb)))) (Km (Vw a1 x21) (0,w64 (2 * x21),x22)) fun (x40,x41) =>
  onInl (α:=(List Jb)) (β:=((Int×(List Jb))⊕((List Jb)⊕(List Jb)))) (
   bif decide ((w64 (x41+x21))<a1) then (
    (Qr x40 x41 (w64 (x41+x21)) a1).bind fun r45 =>
    some (.inl r45)
   ) else (
    some (.inl x40)
   )
  ) fun x44 =>
  some (.inl (w64 (x21 * 2),x44))
 ) else (
  some (.inr (.inl x22))
 )
noncomputable def Qy (a0:(List Jb)) (a1:Int):Option (List Jb) :=
 onInl (α:=((List Jb)×Int)) (β:=(List Jb)) (Km (Qx a1) (0,20,a0)) fun (x6,x7) =>
 (Kv x6 x7 a1).bind fun r9 =>
 onInl (α:=(List Jb)) (β:=(List Jb)) (Km (Qv a1) (20,r9)) fun x34 =>
 some x34
theorem Zg (a0:(List Jb)) (a1:Int) (r:(List Jb)) (h:Qy a0 a1=some r):Xv Go.Proofs.Tryz.prog GlS 121 2 16 (a0.map cellsOf) [Enc.pv a1,.fn 77 []] none (r.map cellsOf):=by
 unfold Qy at h
 refine Dz Go.Proofs.Tryz.func121 (by rfl) rfl Go.Proofs.Tryz.ntmps121 (by rfl) rfl ?_
 refine Ja (Jg (zE (Jc (Ja (Jg (zE (Jc (Ja (Jo ?_)))))))))
 obtain ⟨o4,h4,h⟩:=Ko h
 refine Kh 63 0 (fun (x2,x3,x4)=>⟨[(0,.ex 1000000000 2 16 (((a0:(List Jb)).map cellsOf).length) 0 (((a0:(List Jb)).map cellsOf).length)),(1,.int .i64 a1),(2,.fn 77 []),(6,.int .i64 20),(7,.int .i64 x2),(8,.int .i64 x3)],[],[(1000000000,(((a0:(List Jb)).map cellsOf).length,0))],[(1000000000,(2,(16,(x4:(List Jb)).map cellsOf)))]⟩) (fun (x6,x7)=>⟨[(0,.ex 1000000000 2 16 (((a0:(List Jb)).map cellsOf).length) 0 (((a0:(List Jb)).map cellsOf).length)),(1,.int .i64 a1),(2,.fn 77 []),(6,.int .i64 20),(7,.int .i64 x7)],[],[(1000000000,(((a0:(List Jb)).map cellsOf).length,0))],[(1000000000,(2,(16,(x6:(List Jb)).map cellsOf)))]⟩) h4 (by kernel_rfl) (fun _=>by kernel_rfl) ?_ ?_
 ·rintro ⟨x2,x3,x4⟩ oh3 h3
  unfold Qx at h3
  refine Ja (Ja (Jg (zE (Jc ?_))))
  rcases Jl h3 with ⟨hb,h3⟩|⟨hb,h3⟩
  ·refine zT hb (Jk (Jc (Jo (Ja (Jg (zR 4 ?_))))))
   obtain ⟨r8,h5,h3⟩:=Ji h3
   refine Ia (t:=1000000000) (L:=(x4:(List Jb))) (L':=(r8:(List Jb))) (N:=((a0:(List Jb)).map cellsOf).length) (by kernel_rfl) (by kernel_rfl) (by kernel_rfl) (Uu _ _ _ r8 h5) ?_
   refine zN (Jc (Ja (Jg (zE (Jc (Jg (zE (Kb ?_))))))))
   cases h3
   exact zB
  refine zU hb (Ka (Jx ?_))
  cases h3
  exact zX
 rintro ⟨x6,x7⟩ s' rfl hs
 have h:=Kd h
 refine Jv (Jc (Ke hs (Ja (Jg (zR 4 ?_)))))
 obtain ⟨r9,h6,h⟩:=Ji h
 refine Ia (t:=1000000000) (L:=(x6:(List Jb))) (L':=(r9:(List Jb))) (N:=((a0:(List Jb)).map cellsOf).length) (by kernel_rfl) (by kernel_rfl) (by kernel_rfl) (Uu _ _ _ r9 h6) ?_
 refine zN (Jc (Jo ?_))
 obtain ⟨o24,h24,h⟩:=Ko h
 refine Kh 63 2 (fun (x21,x22)=>⟨[(0,.ex 1000000000 2 16 (((a0:(List Jb)).map cellsOf).length) 0 (((a0:(List Jb)).map cellsOf).length)),(1,.int .i64 a1),(2,.fn 77 []),(6,.int .i64 x21)],[],[(1000000000,(((a0:(List Jb)).map cellsOf).length,0))],[(1000000000,(2,(16,(x22:(List Jb)).map cellsOf)))]⟩) (fun x34=>⟨[],[],[(1000000000,(((a0:(List Jb)).map cellsOf).length,0))],[(1000000000,(2,(16,(x34:(List Jb)).map cellsOf)))]⟩) h24 (by kernel_rfl) (fun _=>by kernel_rfl) ?_ ?_
 ·rintro ⟨x21,x22⟩ oh23 h23
  unfold Qv at h23
  refine Ja (Ja (Jg (zE (Jc ?_))))
  rcases Jl h23 with ⟨hb,h23⟩|⟨hb,h23⟩
  ·refine zT hb (Jk (Jc (Jo (Ja (Jg (zE (Jc (Ja (Jo ?_)))))))))
   obtain ⟨o28,h28,h23⟩:=Ko h23
   refine Kh 63 4 (fun (x36,x37,x38)=>⟨[(0,.ex 1000000000 2 16 (((a0:(List Jb)).map cellsOf).length) 0 (((a0:(List Jb)).map cellsOf).length)),(1,.int .i64 a1),(2,.fn 77 []),(6,.int .i64 x21),(7,.int .i64 x36),(8,.int .i64 x37)],[],[(1000000000,(((a0:(List Jb)).map cellsOf).length,0))],[(1000000000,(2,(16,(x38:(List Jb)).map cellsOf)))]⟩) (fun (x40,x41)=>⟨[(0,.ex 1000000000 2 16 (((a0:(List Jb)).map cellsOf).length) 0 (((a0:(List Jb)).map cellsOf).length)),(1,.int .i64 a1),(2,.fn 77 []),(6,.int .i64 x21),(7,.int .i64 x41)],[],[(1000000000,(((a0:(List Jb)).map cellsOf).length,0))],[(1000000000,(2,(16,(x40:(List Jb)).map cellsOf)))]⟩) h28 (by kernel_rfl) (fun _=>by kernel_rfl) ?_ ?_
   ·rintro ⟨x36,x37,x38⟩ oh27 h27
    unfold Vw at h27
    refine Ja (Ja (Jg (zE (Jc ?_))))
    rcases Jl h27 with ⟨hb,h27⟩|⟨hb,h27⟩
    ·refine zT hb (Jk (Jc (Jo (Ja (Jg (zR 7 ?_))))))
     obtain ⟨r42,h29,h27⟩:=Ji h27
     refine Ia (t:=1000000000) (L:=(x38:(List Jb))) (L':=(r42:(List Jb))) (N:=((a0:(List Jb)).map cellsOf).length) (by kernel_rfl) (by kernel_rfl) (by kernel_rfl) (Vd _ _ _ _ r42 h29) ?_
     refine zN (Jc (Ja (Jg (zE (Jc (Jg (zE (Kb ?_))))))))
     cases h27
     exact zB
    refine zU hb (Ka (Jx ?_))
    cases h27
    exact zX
   rintro ⟨x40,x41⟩ s' rfl hs
   have h23:=Kd h23
   refine Jv (Jc (Ke hs ?_))
   obtain ⟨o31,h31,h23⟩:=Ko h23
   refine Um (o:=o31) 63 (fun x44=>⟨[(0,.ex 1000000000 2 16 (((a0:(List Jb)).map cellsOf).length) 0 (((a0:(List Jb)).map cellsOf).length)),(1,.int .i64 a1),(2,.fn 77 []),(6,.int .i64 x21)],[],[(1000000000,(((a0:(List Jb)).map cellsOf).length,0))],[(1000000000,(2,(16,(x44:(List Jb)).map cellsOf)))]⟩) ?_ ?_
   ·refine Ja (Jg (zE (Jc (Ja (Jg (zE (Jc ?_)))))))
    rcases Jl h31 with ⟨hb,h31⟩|⟨hb,h31⟩
    ·refine zT hb (Jg (zR 5 ?_))
     obtain ⟨r45,h32,h31⟩:=Ji h31
     refine Ia (t:=1000000000) (L:=(x40:(List Jb))) (L':=(r45:(List Jb))) (N:=((a0:(List Jb)).map cellsOf).length) (by kernel_rfl) (by kernel_rfl) (by kernel_rfl) (Vd _ _ _ _ r45 h32) ?_
     refine zN ?_
     cases h31
     exact zJ
    refine zU hb (Jk ?_)
    cases h31
    exact zJ
   rintro x44 rfl
   have h23:=Kd h23
   refine Jg (zE (Kb ?_))
   cases h23
   exact zB
  refine zU hb (Ka (Jx ?_))
  cases h23
  exact zX
 rintro x34 s' rfl hs
 have h:=Kd h
 refine Jv ?_
 cases h
 exact Jg6 hs (by kernel_rfl)
/-! slices.SortStableFunc[[]api.Linked,api.Linked] -/
noncomputable def Qh (a0:(List Jb)):Option (List Jb) :=
 (Qy a0 ((((a0:(List Jb)).map cellsOf).length:Nat):Int)).bind fun r1 =>
 some r1
theorem Yp (a0:(List Jb)) (r:(List Jb)) (h:Qh a0=some r):Xv Go.Proofs.Tryz.prog GlS 76 2 16 (a0.map cellsOf) [.fn 77 []] none (r.map cellsOf):=by
 unfold Qh at h
 refine Dz Go.Proofs.Tryz.func76 (by rfl) rfl Go.Proofs.Tryz.ntmps76 (by rfl) rfl ?_
 refine Jg (zR 4 ?_)
 obtain ⟨r1,h1,h⟩:=Ji h
 refine Ia (t:=1000000000) (L:=(a0:(List Jb))) (L':=(r1:(List Jb))) (N:=((a0:(List Jb)).map cellsOf).length) (by kernel_rfl) (by kernel_rfl) (by kernel_rfl) (Zg _ _ r1 h1) ?_
 refine zN ?_
 cases h
 exact Jdj (by kernel_rfl)
/-! linking.Of -/
noncomputable def Ce (a3:Int) (x132:Int) (x134:(List (Int×(List Jt)))) (x192:Jd) (x194:Jw):(Int×(List Jb))→Option ((Int×(List Jb))⊕((List Jb)⊕(((List Jb)×(List (Int×(List Jt))))⊕((Int×Int×(List (Int×(List Jt)))×(List Jb))⊕((List Jb)⊕(List Jb)))))):=fun (x230,x231) =>
 bif decide (x230<((((Ez (x134:(List (Int×(List Jt)))) x192.El).getD ([]:(List Jt))).length:Nat):Int)) then (
  onInl (α:=(List Jb)) (β:=((Int×(List Jb))⊕((List Jb)⊕(((List Jb)×(List (Int×(List Jt))))⊕((Int×Int×(List (Int×(List Jt)))×(List Jb))⊕((List Jb)⊕(List Jb))))))) (
   (ixO ((Ez (x134:(List (Int×(List Jt)))) x192.El).getD ([]:(List Jt))) x230).bind fun x244 =>
   onInl (α:=Int) (β:=((List Jb)⊕((Int×(List Jb))⊕((List Jb)⊕(((List Jb)×(List (Int×(List Jt))))⊕((Int×Int×(List (Int×(List Jt)))×(List Jb))⊕((List Jb)⊕(List Jb)))))))) (
    bif decide (x192.In=1) then (
     some (.inl (w64 ((w64 (x132+x194.Length)) - x244.Offset)))
    ) else (
     some (.inl (w64 (x132+x244.Offset)))
    )
   ) fun x245 =>
   bif decide (x245≤a3) then (
    (Vg x231 [(Jb.mk x244.Id x245)]).bind fun x246 =>
    some (.inl x246)
   ) else (
    some (.inl x231)
   )
  ) fun x243 =>
  some (.inl (w64 (x230+1),x243))
 ) else (
  some (.inr (.inl x231))
 )
noncomputable def Fi (a0:Je) (a1:(List Jd)) (a3:Int):(Int×Int×(List (Int×(List Jt)))×(List Jb))→Option ((Int×Int×(List (Int×(List Jt)))×(List Jb))⊕((List Jb)⊕(List Jb))):=fun (x132,x133,x134,x135) =>
 bif decide (x133<((a1.length:Nat):Int)) then (
  (ixO a1 x133).bind fun x192 =>
  ((bif decide (x192.El<0) then some true else (
   some (decide (((a0.Elements.length:Nat):Int)≤x192.El))
  )):Option Bool).bind fun b193 =>
  bif b193 then (
   some (.inr (.inr ([]:(List Jb))))
  ) else (
   (ixO a0.Elements x192.El).bind fun x194 =>
   onInl (α:=((List Jb)×(List (Int×(List Jt))))) (β:=((Int×Int×(List (Int×(List Jt)))×(List Jb))⊕((List Jb)⊕(List Jb)))) (
    (Bz x194.Kind x192).bind fun r222 =>
    bif r222 then (
     onInl (α:=(List Jb)) (β:=(((List Jb)×(List (Int×(List Jt))))⊕((Int×Int×(List (Int×(List Jt)))×(List Jb))⊕((List Jb)⊕(List Jb))))) (Km (Ce a3 x132 x134 x192 x194) (0,x135)) fun x239 =>
     some (.inl (x239,(Jkz x192.El x134)))
    ) else (
     some (.inl (x135,x134))
    )
   ) fun (x220,x221) =>
   some (.inl (w64 (x132+x194.Length),w64 (x133+1),x221,x220))
  )
 ) else (
  some (.inr (.inl x135))
 )
noncomputable def Lp (a0:Je) (a1:(List Jd)) (a2:Int) (a3:Int):Option (List Jb) :=
 (Db a0 a1).bind fun r1 =>
 bif (!r1) then (
  some ([]:(List Jb))
 ) else (
  (Jk2 (fun (x:Jt)=>x.El) a0.Balises).bind fun m2 =>
  onInl (α:=(List Jb)) (β:=(List Jb)) (Km (Fi a0 a1 a3) (a2,0,m2,([]:(List Jb)))) fun x191 =>
  (Qh x191).bind fun r247 =>
  some r247
 )
theorem Jjt (a0:Je) (a1:(List Jd)) (a2:Int) (a3:Int) (r:(List Jb)) (h:Lp a0 a1 a2 a3=some r):Kq Go.Proofs.Tryz.prog GlS 31 [Enc.pv a0,Enc.pv a1,Enc.pv a2,Enc.pv a3] (Enc.pv r):=by
 unfold Lp at h
 refine Js Go.Proofs.Tryz.func31 (by rfl) rfl Go.Proofs.Tryz.ntmps31 (by rfl) rfl ?_
 refine Ja (Jg (zE (Jc (Ja (Ja (Jg (zR 2 ?_)))))))
 obtain ⟨r1,h1,h⟩:=Ji h
 refine Jy (Pe _ _ r1 h1) (by kernel_rfl) (by kernel_rfl) (zE (Jc ?_))
 rcases Jl h with ⟨hb,h⟩|⟨hb,h⟩
 ·refine zT hb (Ja (Jg (zE (Jc (Jq (Jn ?_))))))
  cases h
  exact zQ
 refine zU hb (Jk (Jc (Ja (Jg (zE (Jc (Ja (Ja (Jg (zR 2 ?_))))))))))
 refine Kl (L:=(a0.Balises:(List Jt))) (by kernel_rfl) ?_
 refine zE (Jc (Jo ?_))
 obtain ⟨m2,h2,h⟩:=Ji h
 obtain ⟨em2,hz,hz2⟩:=Jso h2
 refine Ka6 (κ:=Int) (ν:=Jt) a0.Balises (fun (x:Jt)=>x.El) 0 (fun (i:Nat) (m:List (Int×List Jt))=>Jbj ⟨[(1,Jp .frozen (a1:(List Jd))),(2,.int .i64 a2),(3,.int .i64 a3),(4,.ref 4 0),(9,.mp 24),(26,Jp .frozen (a0.Balises:(List Jt))),(27,.int .i64 ((a0.Balises.length:Nat):Int)),(28,.int .i64 ((i:Nat):Int))],[(4,.cells (cellsOf a0))],[],[]⟩ 116 24 (.mapo (esO m) (Enc.k Jt) (Enc.b Jt) Vf) (Rq m)) (fun (m:List (Int×List Jt))=>((⟨[(1,Jp .frozen (a1:(List Jd))),(2,.int .i64 a2),(3,.int .i64 a3),(4,.ref 4 0),(9,.mp 24)],(24,.map (Gw m))::[(4,.cells (cellsOf a0))],[],[]⟩:JS).st 116)) ?_ ?_ ?_ ?_
 ·exact Kb7 24 (by kernel_rfl) (by kernel_rfl) (by decide) (by kernel_rfl)
 ·intro i x hx
  have hi:=Uc hx
  refine Ja (Jg (zE (Jc (Ja ?_))))
  refine Jb5 (b:=decide (((i:Nat):Int)<((a0.Balises.length:Nat):Int))) (decide_eq_true (by omega)) (by kernel_rfl) ?_
  refine Jk (Jc (Ja (Jo (Ja (Jg (p_ix (Wk hx) (by kernel_rfl) (zE (Jc (Qb (by kernel_rfl) (by kernel_rfl) (zR 6 ?_))))))))))
  refine Kes (m:=(grp (fun (x:Jt)=>x.El) (a0.Balises.take i))) (k:=x.El) (tk:=Vf) 24 (by kernel_rfl) (by kernel_rfl) ?_
  cases hf:Zt x.El (grp (fun (x:Jt)=>x.El) (a0.Balises.take i)) with
  | none =>
   refine zR 2 ?_
   refine Jcl (α:=Jt) (tk:=41) (L:=([]:List Jt)) (ys:=[x]) (M:=[x]) (Jvh (n:=a0.Balises.length) (by simp; omega) hz) (by kernel_rfl) ?_
   refine Jx3 (m:=(grp (fun (x:Jt)=>x.El) (a0.Balises.take i))) (k:=x.El) (M:=[x]) (tk:=Vf) 41 24 (by kernel_rfl) (by kernel_rfl) ?_
   refine zN ?_
   refine Kb (Jc (Ke (Kbt (j:=⟨[(1,Jp .frozen (a1:(List Jd))),(2,.int .i64 a2),(3,.int .i64 a3),(4,.ref 4 0),(9,.mp 24),(26,Jp .frozen (a0.Balises:(List Jt))),(27,.int .i64 ((a0.Balises.length:Nat):Int)),(28,.int .i64 ((i:Nat):Int))],[(4,.cells (cellsOf a0))],[],[]⟩) (n:=116) 24 41 (fk:=(fun (x:Jt)=>x.El)) (x:=x) (m:=(grp (fun (x:Jt)=>x.El) (a0.Balises.take i))) (by decide) hf (by kernel_rfl) (by kernel_rfl) (by have h1:=Jui (fun (x:Jt)=>x.El) (a0.Balises.take i); simp only [List.length_take] at h1; omega) (by kernel_rfl) (by kernel_rfl)) ?_))
   refine Jg (zE ?_)
   refine ⟨rfl, ?_⟩
   have hw:((i+1:Nat):Int)=w64 ((i:Int)+1):=(Gx (by omega)).symm
   show Wkr _ (Jbj ⟨[(1,Jp .frozen (a1:(List Jd))),(2,.int .i64 a2),(3,.int .i64 a3),(4,.ref 4 0),(9,.mp 24),(26,Jp .frozen (a0.Balises:(List Jt))),(27,.int .i64 ((a0.Balises.length:Nat):Int)),(28,.int .i64 ((i+1:Nat):Int))],[(4,.cells (cellsOf a0))],[],[]⟩ 116 24 (.mapo (esO (Pa (fun (x:Jt)=>x.El) x (grp (fun (x:Jt)=>x.El) (a0.Balises.take i)))) (Enc.k Jt) (Enc.b Jt) Vf) (Rq (Pa (fun (x:Jt)=>x.El) x (grp (fun (x:Jt)=>x.El) (a0.Balises.take i)))))
   rw [hw]
   exact Jj8 24 (by kernel_rfl) (by kernel_rfl) (by kernel_rfl) (by kernel_rfl)
  | some y =>
   obtain ⟨q,M⟩:=y
   refine zR 2 ?_
   refine Kdq (α:=Jt) (tk:=Vf q) (L:=M) (ys:=[x]) (M:=M++[x]) (T:=Rq (grp (fun (x:Jt)=>x.El) (a0.Balises.take i))) (Jvh (Jov hx hf) hz) (by kernel_rfl) (Jv7 hf) (by kernel_rfl) ?_
   refine Jx3 (m:=(grp (fun (x:Jt)=>x.El) (a0.Balises.take i))) (k:=x.El) (M:=M++[x]) (tk:=Vf) (Vf q) 24 (by kernel_rfl) (by kernel_rfl) ?_
   refine zN ?_
   refine Kb (Jc (Ke (Kbp (j:=⟨[(1,Jp .frozen (a1:(List Jd))),(2,.int .i64 a2),(3,.int .i64 a3),(4,.ref 4 0),(9,.mp 24),(26,Jp .frozen (a0.Balises:(List Jt))),(27,.int .i64 ((a0.Balises.length:Nat):Int)),(28,.int .i64 ((i:Nat):Int))],[(4,.cells (cellsOf a0))],[],[]⟩) (n:=116) 24 (fk:=(fun (x:Jt)=>x.El)) (x:=x) (m:=(grp (fun (x:Jt)=>x.El) (a0.Balises.take i))) hf (by kernel_rfl) (by kernel_rfl) (by kernel_rfl) (by kernel_rfl)) ?_))
   refine Jg (zE ?_)
   refine ⟨rfl, ?_⟩
   have hw:((i+1:Nat):Int)=w64 ((i:Int)+1):=(Gx (by omega)).symm
   show Wkr _ (Jbj ⟨[(1,Jp .frozen (a1:(List Jd))),(2,.int .i64 a2),(3,.int .i64 a3),(4,.ref 4 0),(9,.mp 24),(26,Jp .frozen (a0.Balises:(List Jt))),(27,.int .i64 ((a0.Balises.length:Nat):Int)),(28,.int .i64 ((i+1:Nat):Int))],[(4,.cells (cellsOf a0))],[],[]⟩ 116 24 (.mapo (esO (Pa (fun (x:Jt)=>x.El) x (grp (fun (x:Jt)=>x.El) (a0.Balises.take i)))) (Enc.k Jt) (Enc.b Jt) Vf) (Rq (Pa (fun (x:Jt)=>x.El) x (grp (fun (x:Jt)=>x.El) (a0.Balises.take i)))))
   rw [hw]
   exact Jj8 24 (by kernel_rfl) (by kernel_rfl) (by kernel_rfl) (by kernel_rfl)
 ·intro m
  refine Ja (Jg (zE (Jc (Ja ?_))))
  refine Jce (b:=decide (((a0.Balises.length:Nat):Int)<((a0.Balises.length:Nat):Int))) (decide_eq_false (by omega)) (by kernel_rfl) ?_
  refine Ka (Jx ?_)
  exact ⟨rfl,Kar (j:=⟨[(1,Jp .frozen (a1:(List Jd))),(2,.int .i64 a2),(3,.int .i64 a3),(4,.ref 4 0),(9,.mp 24)],[(4,.cells (cellsOf a0))],[],[]⟩) (m:=m) (tk:=Vf) 24 (by kernel_rfl) (by kernel_rfl) (by kernel_rfl)⟩
 intro s' hs
 rw [← em2] at hs
 refine Jv (Jc (Ke hs (Ja (Jg (zE (Jc (Ja (Jg (zE (Jc (Ja (Ja (Jg (zR 1 ?_))))))))))))))
 refine Kl (L:=(a1:(List Jd))) (by kernel_rfl) ?_
 refine zE (Jc (Jo (Ke (Jyo 12 100012 2 16 (by kernel_rfl) (by kernel_rfl)) ?_)))
 obtain ⟨o177,h177,h⟩:=Ko h
 refine Kh 116 2 (fun (x132,x133,x134,x135)=>⟨[(3,.int .i64 a3),(4,.ref 4 0),(9,.mp 24),(12,.ex 100012 2 16 (((x135:(List Jb)).map cellsOf).length) 0 (((x135:(List Jb)).map cellsOf).length)),(13,.int .i64 x132),(44,Jp .frozen (a1:(List Jd))),(45,.int .i64 ((a1.length:Nat):Int)),(46,.int .i64 x133)],[(4,.cells (cellsOf a0)),(24,.map (Gw (x134:(List (Int×(List Jt))))))],[(100012,(((x135:(List Jb)).map cellsOf).length,0))],[(100012,(2,(16,(x135:(List Jb)).map cellsOf)))]⟩) (fun x191=>⟨[(12,.ex 100012 2 16 (((x191:(List Jb)).map cellsOf).length) 0 (((x191:(List Jb)).map cellsOf).length))],[],[(100012,(((x191:(List Jb)).map cellsOf).length,0))],[(100012,(2,(16,(x191:(List Jb)).map cellsOf)))]⟩) h177 (by kernel_rfl) (fun _=>by kernel_rfl) ?_ ?_
 ·rintro ⟨x132,x133,x134,x135⟩ oh176 h176
  unfold Fi at h176
  refine Ja (Jg (zE (Jc (Ja ?_))))
  rcases Jl h176 with ⟨hb,h176⟩|⟨hb,h176⟩
  ·refine zT hb (Jk (Jc (Ja (Jo (Ja (Jg ?_))))))
   obtain ⟨x192,h178,h176⟩:=Ji h176
   refine zI h178 (zE (Jc (Ja (Ja (Jg ?_)))))
   obtain ⟨b193,h179,h176⟩:=Ji h176
   refine zR 4 ?_
   refine Qf 7 60 (.bool b193) ?_ ?_
   ·rcases Jl h179 with ⟨hb,h179⟩|⟨hb,h179⟩
    ·refine zS 53 hb ?_
     cases h179
     exact zF
    refine zS 53 hb (zR 4 ?_)
    refine Kl (L:=(a0.Elements:(List Jw))) (by kernel_rfl) ?_
    cases h179
    exact zF
   refine zN (Jc ?_)
   rcases Jl h176 with ⟨hb,h176⟩|⟨hb,h176⟩
   ·refine zT hb (Ja (Jg (zE (Jc (Jq (Jn (Jr (Jn ?_))))))))
    cases h176
    refine Kf fun he=>?_
    subst he
    have h180:=Qd h
    refine Jr (Jn ?_)
    cases h180
    exact zQ
   refine zU hb (Jk (Jc (Ja (Jg (zR 4 ?_)))))
   obtain ⟨x194,h181,h176⟩:=Ji h176
   refine zI h181 (zE (Jc ?_))
   obtain ⟨o206,h206,h176⟩:=Ko h176
   refine Um (o:=o206) 116 (fun (x220,x221)=>⟨[(3,.int .i64 a3),(4,.ref 4 0),(9,.mp 24),(12,.ex 100012 2 16 (((x220:(List Jb)).map cellsOf).length) 0 (((x220:(List Jb)).map cellsOf).length)),(13,.int .i64 x132),(16,.ref 16 0),(44,Jp .frozen (a1:(List Jd))),(45,.int .i64 ((a1.length:Nat):Int)),(46,.int .i64 x133)],[(4,.cells (cellsOf a0)),(16,.cells (cellsOf x194)),(24,.map (Gw (x221:(List (Int×(List Jt))))))],[(100012,(((x220:(List Jb)).map cellsOf).length,0))],[(100012,(2,(16,(x220:(List Jb)).map cellsOf)))]⟩) ?_ ?_
   ·refine Ja (Jg (zR 3 ?_))
    obtain ⟨r222,h207,h206⟩:=Ji h206
    refine Jy (Jdx _ _ r222 h207) (by kernel_rfl) (by kernel_rfl) (zN (Jc ?_))
    rcases Jl h206 with ⟨hb,h206⟩|⟨hb,h206⟩
    ·refine zT hb (Ja (Ja (Jg (zR 3 ?_))))
     refine Jzz (m:=(x134:(List (Int×(List Jt))))) (k:=x192.El) ([]:(List Jt)) 24 (by kernel_rfl) (by kernel_rfl) ?_
     refine Kl (L:=(((Ez (x134:(List (Int×(List Jt)))) x192.El).getD ([]:(List Jt))):(List Jt))) (by kernel_rfl) ?_
     refine zE (Jc (Jo ?_))
     obtain ⟨o223,h223,h206⟩:=Ko h206
     refine Kh 116 4 (fun (x230,x231)=>⟨[(3,.int .i64 a3),(4,.ref 4 0),(9,.mp 24),(12,.ex 100012 2 16 (((x231:(List Jb)).map cellsOf).length) 0 (((x231:(List Jb)).map cellsOf).length)),(13,.int .i64 x132),(15,.ref 15 0),(16,.ref 16 0),(44,Jp .frozen (a1:(List Jd))),(45,.int .i64 ((a1.length:Nat):Int)),(46,.int .i64 x133),(74,Jp .frozen (((Ez (x134:(List (Int×(List Jt)))) x192.El).getD ([]:(List Jt))):(List Jt))),(75,.int .i64 ((((Ez (x134:(List (Int×(List Jt)))) x192.El).getD ([]:(List Jt))).length:Nat):Int)),(76,.int .i64 x230)],[(4,.cells (cellsOf a0)),(15,.cells (cellsOf x192)),(16,.cells (cellsOf x194)),(24,.map (Gw (x134:(List (Int×(List Jt))))))],[(100012,(((x231:(List Jb)).map cellsOf).length,0))],[(100012,(2,(16,(x231:(List Jb)).map cellsOf)))]⟩) (fun x239=>⟨[(3,.int .i64 a3),(4,.ref 4 0),(9,.mp 24),(12,.ex 100012 2 16 (((x239:(List Jb)).map cellsOf).length) 0 (((x239:(List Jb)).map cellsOf).length)),(13,.int .i64 x132),(15,.ref 15 0),(16,.ref 16 0),(44,Jp .frozen (a1:(List Jd))),(45,.int .i64 ((a1.length:Nat):Int)),(46,.int .i64 x133)],[(4,.cells (cellsOf a0)),(15,.cells (cellsOf x192)),(16,.cells (cellsOf x194)),(24,.map (Gw (x134:(List (Int×(List Jt))))))],[(100012,(((x239:(List Jb)).map cellsOf).length,0))],[(100012,(2,(16,(x239:(List Jb)).map cellsOf)))]⟩) h223 (by kernel_rfl) (fun _=>by kernel_rfl) ?_ ?_
     ·rintro ⟨x230,x231⟩ oh222 h222
      unfold Ce at h222
      refine Ja (Jg (zE (Jc (Ja ?_))))
      rcases Jl h222 with ⟨hb,h222⟩|⟨hb,h222⟩
      ·refine zT hb (Jk (Jc ?_))
       obtain ⟨o227,h227,h222⟩:=Ko h222
       refine Um (o:=o227) 116 (fun x243=>⟨[(3,.int .i64 a3),(4,.ref 4 0),(9,.mp 24),(12,.ex 100012 2 16 (((x243:(List Jb)).map cellsOf).length) 0 (((x243:(List Jb)).map cellsOf).length)),(13,.int .i64 x132),(15,.ref 15 0),(16,.ref 16 0),(44,Jp .frozen (a1:(List Jd))),(45,.int .i64 ((a1.length:Nat):Int)),(46,.int .i64 x133),(74,Jp .frozen (((Ez (x134:(List (Int×(List Jt)))) x192.El).getD ([]:(List Jt))):(List Jt))),(75,.int .i64 ((((Ez (x134:(List (Int×(List Jt)))) x192.El).getD ([]:(List Jt))).length:Nat):Int)),(76,.int .i64 x230)],[(4,.cells (cellsOf a0)),(15,.cells (cellsOf x192)),(16,.cells (cellsOf x194)),(24,.map (Gw (x134:(List (Int×(List Jt))))))],[(100012,(((x243:(List Jb)).map cellsOf).length,0))],[(100012,(2,(16,(x243:(List Jb)).map cellsOf)))]⟩) ?_ ?_
       ·refine Jo (Ja (Jg ?_))
        obtain ⟨x244,h228,h227⟩:=Ji h227
        refine zI h228 (zE (Jc (Ja (Jg (zE (Jc ?_))))))
        obtain ⟨o229,h229,h227⟩:=Ko h227
        refine Um (o:=o229) 116 (fun x245=>⟨[(3,.int .i64 a3),(4,.ref 4 0),(9,.mp 24),(12,.ex 100012 2 16 (((x231:(List Jb)).map cellsOf).length) 0 (((x231:(List Jb)).map cellsOf).length)),(13,.int .i64 x132),(15,.ref 15 0),(16,.ref 16 0),(18,.ref 18 0),(19,.int .i64 x245),(44,Jp .frozen (a1:(List Jd))),(45,.int .i64 ((a1.length:Nat):Int)),(46,.int .i64 x133),(74,Jp .frozen (((Ez (x134:(List (Int×(List Jt)))) x192.El).getD ([]:(List Jt))):(List Jt))),(75,.int .i64 ((((Ez (x134:(List (Int×(List Jt)))) x192.El).getD ([]:(List Jt))).length:Nat):Int)),(76,.int .i64 x230)],[(4,.cells (cellsOf a0)),(15,.cells (cellsOf x192)),(16,.cells (cellsOf x194)),(18,.cells (cellsOf x244)),(24,.map (Gw (x134:(List (Int×(List Jt))))))],[(100012,(((x231:(List Jb)).map cellsOf).length,0))],[(100012,(2,(16,(x231:(List Jb)).map cellsOf)))]⟩) ?_ ?_
        ·refine Ja (Jg (zE (Jc ?_)))
         rcases Jl h229 with ⟨hb,h229⟩|⟨hb,h229⟩
         ·refine zT hb (Jg (zE ?_))
          cases h229
          exact zJ
         refine zU hb (Jk ?_)
         cases h229
         exact zJ
        rintro x245 rfl
        have h227:=Kd h227
        refine Ja (Jg (zE (Jc ?_)))
        rcases Jl h227 with ⟨hb,h227⟩|⟨hb,h227⟩
        ·refine zT hb (Jg (zR 6 ?_))
         obtain ⟨x246,h230,h227⟩:=Ji h227
         refine Jyx (tk:=100012) (N:=((x231:(List Jb)).map cellsOf).length) h230 (by kernel_rfl) (by kernel_rfl) (by kernel_rfl) ?_
         refine zE (Kb ?_)
         cases h227
         exact zJ
        refine zU hb (Jk (Kb ?_))
        cases h227
        exact zJ
       rintro x243 rfl
       have h222:=Kd h222
       refine Jg (zE ?_)
       cases h222
       exact zB
      refine zU hb (Ka (Jx ?_))
      cases h222
      exact zX
     rintro x239 s' rfl hs
     have h206:=Kd h206
     refine Jv (Jc (Ke hs (Jg (zR 3 ?_))))
     refine Kdn (m:=(x134:(List (Int×(List Jt))))) (k:=x192.El) 24 (by kernel_rfl) (by kernel_rfl) ?_
     refine zN ?_
     cases h206
     exact zJ
    refine zU hb (Jk ?_)
    cases h206
    exact zJ
   rintro ⟨x220,x221⟩ rfl
   have h176:=Kd h176
   refine Jg (zE (Kb (Jc (Jg (zE ?_)))))
   cases h176
   exact zB
  refine zU hb (Ka (Jx ?_))
  cases h176
  exact zX
 rintro x191 s' rfl hs
 have h:=Kd h
 refine Jv (Jc (Ke hs (Ja (Jg (zR 1 ?_)))))
 obtain ⟨r247,h231,h⟩:=Ji h
 refine Ia (t:=100012) (L:=(x191:(List Jb))) (L':=(r247:(List Jb))) (N:=((x191:(List Jb)).map cellsOf).length) (by kernel_rfl) (by kernel_rfl) (by kernel_rfl) (Yp _ r247 h231) ?_
 refine zN (Jc (Ja (Jg (zE (Jc ?_)))))
 refine Ke (Jvz (xss:=(r247:(List Jb)).map cellsOf) 100012 2 16 (((x191:(List Jb)).map cellsOf).length) [8,12,113,115] [] (by kernel_rfl) (by kernel_rfl) (by kernel_rfl) (by kernel_rfl)) ?_
 refine Jq ?_
 cases h
 exact zQ
/-! linking.find -/
noncomputable def Gb (a0:(List Jb)) (a2:Int):Int→Option (Int⊕(Unit⊕Int)):=fun x2 =>
 bif decide (x2<((a0.length:Nat):Int)) then (
  (ixO a0 x2).bind fun x4 =>
  bif decide (x4.Id=a2) then (
   some (.inr (.inr x2))
  ) else (
   some (.inl (w64 (x2+1)))
  )
 ) else (
  some (.inr (.inl ()))
 )
noncomputable def Fh (a0:(List Jb)) (a1:Int) (a2:Int):Option Int :=
 onInl (α:=Unit) (β:=Int) (Km (Gb a0 a2) a1) fun _ =>
 some (-1)
theorem Jfm (a0:(List Jb)) (a1:Int) (a2:Int) (r:Int) (h:Fh a0 a1 a2=some r):Kq Go.Proofs.Tryz.prog GlS 96 [Enc.pv a0,Enc.pv a1,Enc.pv a2] (Enc.pv r):=by
 unfold Fh at h
 refine Js Go.Proofs.Tryz.func96 (by rfl) rfl Go.Proofs.Tryz.ntmps96 (by rfl) rfl ?_
 refine Ja (Jg (zE (Jc (Ja (Ja (Jg (zE (Jc (Jo ?_)))))))))
 obtain ⟨o6,h6,h⟩:=Ko h
 refine Kh 23 0 (fun x2=>⟨[(0,Jp .frozen (a0:(List Jb))),(2,.int .i64 a2),(7,.int .i64 x2)],[],[],[]⟩) (fun (_:Unit)=>⟨[],[],[],[]⟩) h6 (by kernel_rfl) (fun _=>by kernel_rfl) ?_ ?_
 ·rintro x2 oh5 h5
  unfold Gb at h5
  refine Ja (Ja (Jg (zR 2 ?_)))
  refine Kl (L:=(a0:(List Jb))) (by kernel_rfl) ?_
  refine zE (Jc ?_)
  rcases Jl h5 with ⟨hb,h5⟩|⟨hb,h5⟩
  ·refine zT hb (Jk (Jc (Ja (Jo (Ja (Jg (zR 2 ?_)))))))
   obtain ⟨x4,h7,h5⟩:=Ji h5
   refine zI h7 (zE (Jc ?_))
   rcases Jl h5 with ⟨hb,h5⟩|⟨hb,h5⟩
   ·refine zT hb (Ja (Jg (zE (Jc (Jq (Jr (Jn ?_)))))))
    cases h5
    refine Kf fun he=>?_
    subst he
    have h8:=Qd h
    refine Jr (Jn ?_)
    cases h8
    exact zQ
   refine zU hb (Jk (Kb (Jc (Jg (zE ?_)))))
   cases h5
   exact zB
  refine zU hb (Ka (Jx ?_))
  cases h5
  exact zX
 rintro _ s' rfl hs
 have h:=Kd h
 refine Jv (Jc (Ke hs (Ja (Jg (zE (Jc (Jq ?_)))))))
 cases h
 exact zQ
/-! linking.Valid -/
noncomputable def Ev (a0:(List Jb)):Int→Option (Int⊕(Unit⊕Bool)):=fun x7 =>
 bif decide (x7<((a0.length:Nat):Int)) then (
  (ixO a0 x7).bind fun x14 =>
  ((bif decide (0<x7) then (
   (ixO a0 (w64 (x7 - 1))).bind fun x16 =>
   some (decide (x14.At<x16.At))
  ) else some false):Option Bool).bind fun b15 =>
  ((bif b15 then some true else (
   (slO a0 none (some x7) none).bind fun x18 =>
   (Fh x18 0 x14.Id).bind fun r19 =>
   some (decide (0≤r19))
  )):Option Bool).bind fun b17 =>
  bif b17 then (
   some (.inr (.inr false))
  ) else (
   some (.inl (w64 (x7+1)))
  )
 ) else (
  some (.inr (.inl ()))
 )
noncomputable def Du (a0:(List Jb)):Option Bool :=
 bif decide (24<((a0.length:Nat):Int)) then (
  some false
 ) else (
  onInl (α:=Unit) (β:=Bool) (Km (Ev a0) 0) fun _ =>
  some true
 )
theorem Jfa (a0:(List Jb)) (r:Bool) (h:Du a0=some r):Kq Go.Proofs.Tryz.prog GlS 46 [Enc.pv a0] (Enc.pv r):=by
 unfold Du at h
 refine Js Go.Proofs.Tryz.func46 (by rfl) rfl Go.Proofs.Tryz.ntmps46 (by rfl) rfl ?_
 refine Ja (Jg (zE (Jc (Ja (Ja (Jg (zR 1 ?_)))))))
 refine Kl (L:=(a0:(List Jb))) (by kernel_rfl) ?_
 refine zE (Jc ?_)
 rcases Jl h with ⟨hb,h⟩|⟨hb,h⟩
 ·refine zT hb (Ja (Jg (zE (Jc (Jq (Jn ?_))))))
  cases h
  exact zQ
 refine zU hb (Jk (Jc (Ja (Ja (Jg (zR 1 ?_))))))
 refine Kl (L:=(a0:(List Jb))) (by kernel_rfl) ?_
 refine zE (Jc (Jo ?_))
 obtain ⟨o16,h16,h⟩:=Ko h
 refine Kh 38 0 (fun x7=>⟨[(0,Jp .frozen (a0:(List Jb))),(8,Jp .frozen (a0:(List Jb))),(9,.int .i64 ((a0.length:Nat):Int)),(10,.int .i64 x7)],[],[],[]⟩) (fun (_:Unit)=>⟨[],[],[],[]⟩) h16 (by kernel_rfl) (fun _=>by kernel_rfl) ?_ ?_
 ·rintro x7 oh15 h15
  unfold Ev at h15
  refine Ja (Jg (zE (Jc (Ja ?_))))
  rcases Jl h15 with ⟨hb,h15⟩|⟨hb,h15⟩
  ·refine zT hb (Jk (Jc (Ja (Jo (Ja (Jg (zR 1 ?_)))))))
   obtain ⟨x14,h17,h15⟩:=Ji h15
   refine zI h17 (zE (Jc (Ja (Qb (by kernel_rfl) (by kernel_rfl) ?_))))
   obtain ⟨b15,h18,h15⟩:=Ji h15
   refine zR 3 ?_
   refine Qf 10 27 (.bool b15) ?_ ?_
   ·rcases Jl h18 with ⟨hb,h18⟩|⟨hb,h18⟩
    ·refine zS 17 hb (zR 5 ?_)
     obtain ⟨x16,h19,h18⟩:=Ji h18
     refine zI h19 ?_
     cases h18
     exact zF
    refine zS 17 hb ?_
    cases h18
    exact zF
   obtain ⟨b17,h20,h15⟩:=Ji h15
   refine zR 1 ?_
   refine Qf 8 36 (.bool b17) ?_ ?_
   ·rcases Jl h20 with ⟨hb,h20⟩|⟨hb,h20⟩
    ·refine zS 28 hb ?_
     cases h20
     exact zF
    refine zS 28 hb (zR 2 ?_)
    obtain ⟨x18,h21,h20⟩:=Ji h20
    refine Kea h21 .frozen (by kernel_rfl) (by kernel_rfl) (by kernel_rfl) ?_
    refine zR 2 ?_
    obtain ⟨r19,h22,h20⟩:=Ji h20
    refine Jy (Jfm _ _ _ r19 h22) (by kernel_rfl) (by kernel_rfl) ?_
    cases h20
    exact zF
   refine zN (Jc ?_)
   rcases Jl h15 with ⟨hb,h15⟩|⟨hb,h15⟩
   ·refine zT hb (Ja (Jg (zE (Jc (Jq (Jr (Jn ?_)))))))
    cases h15
    refine Kf fun he=>?_
    subst he
    have h23:=Qd h
    refine Jr (Jn ?_)
    cases h23
    exact zQ
   refine zU hb (Jk (Kb (Jc (Jg (zE ?_)))))
   cases h15
   exact zB
  refine zU hb (Ka (Jx ?_))
  cases h15
  exact zX
 rintro _ s' rfl hs
 have h:=Kd h
 refine Jv (Jc (Ke hs (Ja (Jg (zE (Jc (Jq ?_)))))))
 cases h
 exact zQ
/-! authority.Valid -/
noncomputable def Vo (a0:Kk):Option Bool :=
 ((bif ((decide (1≤a0.Seq))&&(decide (a0.Seq≤1073741824))) then (
  (Uz a0.Profile).bind fun r2 =>
  some r2
 ) else some false):Option Bool).bind fun b1 =>
 ((bif (b1&&(decide (0<((a0.Profile.length:Nat):Int)))) then (
  (ixO a0.Profile (w64 (((a0.Profile.length:Nat):Int) - 1))).bind fun x4 =>
  some (decide (x4.To=a0.End))
 ) else some false):Option Bool).bind fun b3 =>
 ((bif b3 then (
  (Du a0.Links).bind fun r6 =>
  some r6
 ) else some false):Option Bool).bind fun b5 =>
 some b5
theorem Bj (a0:Kk) (r:Bool) (h:Vo a0=some r):Kq Go.Proofs.Tryz.prog GlS 18 [Enc.pv a0] (Enc.pv r):=by
 unfold Vo at h
 refine Js Go.Proofs.Tryz.func18 (by rfl) rfl Go.Proofs.Tryz.ntmps18 (by rfl) rfl ?_
 refine Ja (Jg (zE (Jc (Ja (Jg (zR 2 ?_))))))
 refine Kl (L:=(a0.Profile:(List Jf))) (by kernel_rfl) ?_
 refine zE (Jc (Ja (Qb (by kernel_rfl) (by kernel_rfl) (zR 4 ?_))))
 refine Kx 4 14 ((decide (1≤a0.Seq))&&(decide (a0.Seq≤1073741824))) (fun x hx=>?_) ?_
 ·rcases Wb hx with ⟨hb,hx⟩|⟨hb,hx⟩
  ·refine zS 10 hb ?_
   subst hx
   exact zF
  refine zS 10 hb ?_
  subst hx
  exact zF
 obtain ⟨b1,h1,h⟩:=Ji h
 refine zR 1 ?_
 refine Qf 4 19 (.bool b1) ?_ ?_
 ·rcases Jl h1 with ⟨hb,h1⟩|⟨hb,h1⟩
  ·refine zS 15 hb (zR 2 ?_)
   obtain ⟨r2,h2,h1⟩:=Ji h1
   refine Jy (Wy _ r2 h2) (by kernel_rfl) (by kernel_rfl) ?_
   cases h1
   exact zF
  refine zS 15 hb ?_
  cases h1
  exact zF
 refine zR 1 ?_
 refine Kx 3 23 (b1&&(decide (0<((a0.Profile.length:Nat):Int)))) (fun x hx=>?_) ?_
 ·rcases Wb hx with ⟨hb,hx⟩|⟨hb,hx⟩
  ·refine zS 20 hb ?_
   subst hx
   exact zF
  refine zS 20 hb ?_
  subst hx
  exact zF
 obtain ⟨b3,h3,h⟩:=Ji h
 refine zR 1 ?_
 refine Qf 11 35 (.bool b3) ?_ ?_
 ·rcases Jl h3 with ⟨hb,h3⟩|⟨hb,h3⟩
  ·refine zS 24 hb (zR 4 ?_)
   obtain ⟨x4,h4,h3⟩:=Ji h3
   refine zI h4 ?_
   cases h3
   exact zF
  refine zS 24 hb ?_
  cases h3
  exact zF
 obtain ⟨b5,h5,h⟩:=Ji h
 refine zR 1 ?_
 refine Qf 4 40 (.bool b5) ?_ ?_
 ·rcases Jl h5 with ⟨hb,h5⟩|⟨hb,h5⟩
  ·refine zS 36 hb (zR 2 ?_)
   obtain ⟨r6,h6,h5⟩:=Ji h5
   refine Jy (Jfa _ r6 h6) (by kernel_rfl) (by kernel_rfl) ?_
   cases h5
   exact zF
  refine zS 36 hb ?_
  cases h5
  exact zF
 refine zE (Jc (Jq ?_))
 cases h
 exact zQ
/-! authority.Build -/
noncomputable def Ve (a0:Je) (a1:Kj) (a2:(List Ju)) (a3:Int):Option (Kk×Int) :=
 (Db a0 a1.Steps).bind fun r1 =>
 bif (((!r1)||(decide (a3<1)))||(decide (1073741824<a3))) then (
  some ((Kk.mk 0 0 [] []),1)
 ) else (
  (Ge a0 a1.Steps a1.Origin).bind fun r2 =>
  (Wo a2 a1.Steps a1.Origin a0 r2).bind fun r3 =>
  (Yt r3 a1.Origin a1.At).bind fun r4 =>
  (Lp a0 a1.Steps a1.Origin a1.At).bind fun r5 =>
  (Vo (Kk.mk a3 a1.At r4 r5)).bind fun r6 =>
  bif (!r6) then (
   some ((Kk.mk 0 0 [] []),2)
  ) else (
   some ((Kk.mk a3 a1.At r4 r5),0)
  )
 )
set_option maxRecDepth 100000 in
theorem Ye (a0:Je) (a1:Kj) (a2:(List Ju)) (a3:Int) (r:(Kk×Int)) (h:Ve a0 a1 a2 a3=some r):Kq Go.Proofs.Tryz.prog GlS 10 [Enc.pv a0,Enc.pv a1,Enc.pv a2,Enc.pv a3] (.tup [Enc.pv r.1,Enc.pv r.2]):=by
 unfold Ve at h
 refine Jmy Go.Proofs.Tryz.func10 (by rfl) rfl Go.Proofs.Tryz.ntmps10 (by rfl) rfl ?_
 refine Jgl (Jg (zE (Jj7 (Jgl (Ja (Jg (zR 3 ?_)))))))
 obtain ⟨r1,h1,h⟩:=Ji h
 refine Jy (Pe _ _ r1 h1) (by kernel_rfl) (by kernel_rfl) (zR 2 ?_)
 refine Kx 3 19 ((!r1)||(decide (a3<1))) (fun x hx=>?_) ?_
 ·rcases Wx hx with ⟨hb,hx⟩|⟨hb,hx⟩
  ·refine zS 16 hb ?_
   subst hx
   exact zF
  refine zS 16 hb ?_
  subst hx
  exact zF
 refine zR 1 ?_
 refine Kx 3 23 (((!r1)||(decide (a3<1)))||(decide (1073741824<a3))) (fun x hx=>?_) ?_
 ·rcases Wx hx with ⟨hb,hx⟩|⟨hb,hx⟩
  ·refine zS 20 hb ?_
   subst hx
   exact zF
  refine zS 20 hb ?_
  subst hx
  exact zF
 refine zN (Jc ?_)
 rcases Jl h with ⟨hb,h⟩|⟨hb,h⟩
 ·refine zT hb (Ja (Jg (zE (Jc (Jq (Kd8 ?_))))))
  cases h
  exact zQ
 refine zU hb (Jk (Jj7 ?_))
 refine Jeg 1 27 [.ref 8 0,.ref 9 0] (by rfl) ?_
 refine zE ?_
 refine ⟨by kernel_rfl,by kernel_rfl,by kernel_rfl, ?_⟩
 refine Ja (Qb (by kernel_rfl) (by kernel_rfl) (zR 11 ?_))
 obtain ⟨r2,h2,h⟩:=Ji h
 refine Jy (Ji5 _ _ _ r2 h2) (by kernel_rfl) (by kernel_rfl) ?_
 obtain ⟨r3,h3,h⟩:=Ji h
 refine Jy (Jaz _ _ _ _ _ r3 h3) (by kernel_rfl) (by kernel_rfl) (zE (Jc (Ja (Qb (by kernel_rfl) (by kernel_rfl) (zR 8 ?_)))))
 obtain ⟨r4,h4,h⟩:=Ji h
 refine Jy (Jhd _ _ _ r4 h4) (by kernel_rfl) (by kernel_rfl) (zR 7 ?_)
 obtain ⟨r5,h5,h⟩:=Ji h
 refine Jy (Jjt _ _ _ _ r5 h5) (by kernel_rfl) (by kernel_rfl) (zE (Jc (Jq ?_)))
 refine Kdc (caps:=[.ref 8 0,.ref 9 0]) (by kernel_rfl) Go.Proofs.Tryz.func27 (by rfl) rfl Go.Proofs.Tryz.ntmps27 (by rfl) ?_
 refine Ke ((Jab 1 (by kernel_rfl)).trans (.of (j:=⟨[(0,.ref 1008 0),(1,.ref 1009 0),(14,.ref 1008 0),(15,.ref 1009 0),(63,.fn 27 [.ref 1008 0,.ref 1009 0])],[(1008,.cells ([.int .i64 a3,.int .i64 a1.At,Jp .frozen (r4:(List Jf)),Jp .frozen (r5:(List Jb))])),(1009,.cells ([.int .i64 0]))],[],[]⟩) (n:=5800064) (by kernel_rfl) (by kernel_rfl))) ?_
 refine Ja (Jg (zR 1 ?_))
 obtain ⟨r6,h6,h⟩:=Ji h
 refine Jy (Bj _ r6 h6) (by kernel_rfl) (by kernel_rfl) (zE (Jc ?_))
 rcases Jl h with ⟨hb,h⟩|⟨hb,h⟩
 ·refine zT hb (Jg (zE ?_))
  cases h
  exact Jfg (by kernel_rfl) (by kernel_rfl) (by kernel_rfl)
 refine zU hb (Jk ?_)
 cases h
 exact Jfg (by kernel_rfl) (by kernel_rfl) (by kernel_rfl)
/-! signallingref10.Same -/
noncomputable def Jbu (a0:(List Jf)) (a1:(List Jf)):Int→Option (Int⊕(Unit⊕Bool)):=fun x3 =>
 bif decide (x3<((a0.length:Nat):Int)) then (
  (ixO a0 x3).bind fun x6 =>
  (ixO a1 x3).bind fun x7 =>
  bif (!(Xq x6 x7)) then (
   some (.inr (.inr false))
  ) else (
   some (.inl (w64 (x3+1)))
  )
 ) else (
  some (.inr (.inl ()))
 )
noncomputable def Jai (a0:(List Jf)) (a1:(List Jf)):Option Bool :=
 bif (!(decide (((a0.length:Nat):Int)=((a1.length:Nat):Int)))) then (
  some false
 ) else (
  onInl (α:=Unit) (β:=Bool) (Km (Jbu a0 a1) 0) fun _ =>
  some true
 )
theorem Jj0 (a0:(List Jf)) (a1:(List Jf)) (r:Bool) (h:Jai a0 a1=some r):Kq Go.Proofs.Tryz.prog GlS 41 [Enc.pv a0,Enc.pv a1] (Enc.pv r):=by
 unfold Jai at h
 refine Js Go.Proofs.Tryz.func41 (by rfl) rfl Go.Proofs.Tryz.ntmps41 (by rfl) rfl ?_
 refine Ja (Jg (zE (Jc (Ja (Ja (Jg (zR 1 ?_)))))))
 refine Kl (L:=(a0:(List Jf))) (by kernel_rfl) ?_
 refine zR 1 ?_
 refine Kl (L:=(a1:(List Jf))) (by kernel_rfl) ?_
 refine zE (Jc ?_)
 rcases Jl h with ⟨hb,h⟩|⟨hb,h⟩
 ·refine zT hb (Ja (Jg (zE (Jc (Jq (Jn ?_))))))
  cases h
  exact zQ
 refine zU hb (Jk (Jc (Ja (Ja (Jg (zR 1 ?_))))))
 refine Kl (L:=(a0:(List Jf))) (by kernel_rfl) ?_
 refine zE (Jc (Jo ?_))
 obtain ⟨o8,h8,h⟩:=Ko h
 refine Kh 26 0 (fun x3=>⟨[(0,Jp .frozen (a0:(List Jf))),(1,Jp .frozen (a1:(List Jf))),(12,.int .i64 ((a0.length:Nat):Int)),(13,.int .i64 x3)],[],[],[]⟩) (fun (_:Unit)=>⟨[],[],[],[]⟩) h8 (by kernel_rfl) (fun _=>by kernel_rfl) ?_ ?_
 ·rintro x3 oh7 h7
  unfold Jbu at h7
  refine Ja (Jg (zE (Jc (Ja ?_))))
  rcases Jl h7 with ⟨hb,h7⟩|⟨hb,h7⟩
  ·refine zT hb (Jk (Jc (Ja (Jo (Ja (Jg (zE (Jc (Ja (Qb (by kernel_rfl) (by kernel_rfl) (zR 2 ?_)))))))))))
   obtain ⟨x6,h9,h7⟩:=Ji h7
   refine zI h9 (zR 3 ?_)
   obtain ⟨x7,h10,h7⟩:=Ji h7
   refine zI h10 (zE (Jc ?_))
   rcases Jl h7 with ⟨hb,h7⟩|⟨hb,h7⟩
   ·refine zT hb (Ja (Jg (zE (Jc (Jq (Jr (Jn ?_)))))))
    cases h7
    refine Kf fun he=>?_
    subst he
    have h11:=Qd h
    refine Jr (Jn ?_)
    cases h11
    exact zQ
   refine zU hb (Jk (Kb (Jc (Jg (zE ?_)))))
   cases h7
   exact zB
  refine zU hb (Ka (Jx ?_))
  cases h7
  exact zX
 rintro _ s' rfl hs
 have h:=Kd h
 refine Jv (Jc (Ke hs (Ja (Jg (zE (Jc (Jq ?_)))))))
 cases h
 exact zQ
/-! signallingref32.Same -/
noncomputable def Jb6 (a0:(List Jb)) (a1:(List Jb)):Int→Option (Int⊕(Unit⊕Bool)):=fun x3 =>
 bif decide (x3<((a0.length:Nat):Int)) then (
  (ixO a0 x3).bind fun x6 =>
  (ixO a1 x3).bind fun x7 =>
  bif (!(Ja9 x6 x7)) then (
   some (.inr (.inr false))
  ) else (
   some (.inl (w64 (x3+1)))
  )
 ) else (
  some (.inr (.inl ()))
 )
noncomputable def Jap (a0:(List Jb)) (a1:(List Jb)):Option Bool :=
 bif (!(decide (((a0.length:Nat):Int)=((a1.length:Nat):Int)))) then (
  some false
 ) else (
  onInl (α:=Unit) (β:=Bool) (Km (Jb6 a0 a1) 0) fun _ =>
  some true
 )
theorem Jjg (a0:(List Jb)) (a1:(List Jb)) (r:Bool) (h:Jap a0 a1=some r):Kq Go.Proofs.Tryz.prog GlS 42 [Enc.pv a0,Enc.pv a1] (Enc.pv r):=by
 unfold Jap at h
 refine Js Go.Proofs.Tryz.func42 (by rfl) rfl Go.Proofs.Tryz.ntmps42 (by rfl) rfl ?_
 refine Ja (Jg (zE (Jc (Ja (Ja (Jg (zR 1 ?_)))))))
 refine Kl (L:=(a0:(List Jb))) (by kernel_rfl) ?_
 refine zR 1 ?_
 refine Kl (L:=(a1:(List Jb))) (by kernel_rfl) ?_
 refine zE (Jc ?_)
 rcases Jl h with ⟨hb,h⟩|⟨hb,h⟩
 ·refine zT hb (Ja (Jg (zE (Jc (Jq (Jn ?_))))))
  cases h
  exact zQ
 refine zU hb (Jk (Jc (Ja (Ja (Jg (zE (Jc (Jo ?_))))))))
 obtain ⟨o8,h8,h⟩:=Ko h
 refine Kh 26 0 (fun x3=>⟨[(0,Jp .frozen (a0:(List Jb))),(1,Jp .frozen (a1:(List Jb))),(5,.int .i64 x3)],[],[],[]⟩) (fun (_:Unit)=>⟨[],[],[],[]⟩) h8 (by kernel_rfl) (fun _=>by kernel_rfl) ?_ ?_
 ·rintro x3 oh7 h7
  unfold Jb6 at h7
  refine Ja (Ja (Jg (zR 2 ?_)))
  refine Kl (L:=(a0:(List Jb))) (by kernel_rfl) ?_
  refine zE (Jc ?_)
  rcases Jl h7 with ⟨hb,h7⟩|⟨hb,h7⟩
  ·refine zT hb (Jk (Jc (Ja (Jo (Ja (Qb (by kernel_rfl) (by kernel_rfl) (zR 2 ?_)))))))
   obtain ⟨x6,h9,h7⟩:=Ji h7
   refine zI h9 (zR 3 ?_)
   obtain ⟨x7,h10,h7⟩:=Ji h7
   refine zI h10 (zE (Jc ?_))
   rcases Jl h7 with ⟨hb,h7⟩|⟨hb,h7⟩
   ·refine zT hb (Ja (Jg (zE (Jc (Jq (Jr (Jn ?_)))))))
    cases h7
    refine Kf fun he=>?_
    subst he
    have h11:=Qd h
    refine Jr (Jn ?_)
    cases h11
    exact zQ
   refine zU hb (Jk (Kb (Jc (Jg (zE ?_)))))
   cases h7
   exact zB
  refine zU hb (Ka (Jx ?_))
  cases h7
  exact zX
 rintro _ s' rfl hs
 have h:=Kd h
 refine Jv (Jc (Ke hs (Ja (Jg (zE (Jc (Jq ?_)))))))
 cases h
 exact zQ
/-! signallingref45.Same -/
noncomputable def Jam (a0:Kk) (a1:Kk):Option Bool :=
 ((bif ((decide (a0.Seq=a1.Seq))&&(decide (a0.End=a1.End))) then (
  (Jai a0.Profile a1.Profile).bind fun r2 =>
  some r2
 ) else some false):Option Bool).bind fun b1 =>
 ((bif b1 then (
  (Jap a0.Links a1.Links).bind fun r4 =>
  some r4
 ) else some false):Option Bool).bind fun b3 =>
 some b3
theorem Jju (a0:Kk) (a1:Kk) (r:Bool) (h:Jam a0 a1=some r):Kq Go.Proofs.Tryz.prog GlS 16 [Enc.pv a0,Enc.pv a1] (Enc.pv r):=by
 unfold Jam at h
 refine Js Go.Proofs.Tryz.func16 (by rfl) rfl Go.Proofs.Tryz.ntmps16 (by rfl) rfl ?_
 refine Ja (Jg (zE (Jc (Ja (Jg (zR 6 ?_))))))
 refine Kx 6 16 ((decide (a0.Seq=a1.Seq))&&(decide (a0.End=a1.End))) (fun x hx=>?_) ?_
 ·rcases Wb hx with ⟨hb,hx⟩|⟨hb,hx⟩
  ·refine zS 10 hb ?_
   subst hx
   exact zF
  refine zS 10 hb ?_
  subst hx
  exact zF
 obtain ⟨b1,h1,h⟩:=Ji h
 refine zR 1 ?_
 refine Qf 6 23 (.bool b1) ?_ ?_
 ·rcases Jl h1 with ⟨hb,h1⟩|⟨hb,h1⟩
  ·refine zS 17 hb (zR 4 ?_)
   obtain ⟨r2,h2,h1⟩:=Ji h1
   refine Jy (Jj0 _ _ r2 h2) (by kernel_rfl) (by kernel_rfl) ?_
   cases h1
   exact zF
  refine zS 17 hb ?_
  cases h1
  exact zF
 obtain ⟨b3,h3,h⟩:=Ji h
 refine zR 1 ?_
 refine Qf 6 30 (.bool b3) ?_ ?_
 ·rcases Jl h3 with ⟨hb,h3⟩|⟨hb,h3⟩
  ·refine zS 24 hb (zR 4 ?_)
   obtain ⟨r4,h4,h3⟩:=Ji h3
   refine Jy (Jjg _ _ r4 h4) (by kernel_rfl) (by kernel_rfl) ?_
   cases h3
   exact zF
  refine zS 24 hb ?_
  cases h3
  exact zF
 refine zE (Jc (Jq ?_))
 cases h
 exact zQ
/-! slices.Equal[[]api.Segment,api.Segment] -/
noncomputable def Dv (a0:(List Jf)) (a1:(List Jf)):Int→Option (Int⊕(Unit⊕Bool)):=fun x3 =>
 bif decide (x3<((a0.length:Nat):Int)) then (
  (ixO a0 x3).bind fun x6 =>
  (ixO a1 x3).bind fun x7 =>
  bif (!(Xq x6 x7)) then (
   some (.inr (.inr false))
  ) else (
   some (.inl (w64 (x3+1)))
  )
 ) else (
  some (.inr (.inl ()))
 )
noncomputable def Zo (a0:(List Jf)) (a1:(List Jf)):Option Bool :=
 bif (!(decide (((a0.length:Nat):Int)=((a1.length:Nat):Int)))) then (
  some false
 ) else (
  onInl (α:=Unit) (β:=Bool) (Km (Dv a0 a1) 0) fun _ =>
  some true
 )
theorem Od (a0:(List Jf)) (a1:(List Jf)) (r:Bool) (h:Zo a0 a1=some r):Kq Go.Proofs.Tryz.prog GlS 43 [Enc.pv a0,Enc.pv a1] (Enc.pv r):=by
 unfold Zo at h
 refine Js Go.Proofs.Tryz.func43 (by rfl) rfl Go.Proofs.Tryz.ntmps43 (by rfl) rfl ?_
 refine Ja (Jg (zE (Jc (Ja (Ja (Jg (zR 1 ?_)))))))
 refine Kl (L:=(a0:(List Jf))) (by kernel_rfl) ?_
 refine zR 1 ?_
 refine Kl (L:=(a1:(List Jf))) (by kernel_rfl) ?_
 refine zE (Jc ?_)
 rcases Jl h with ⟨hb,h⟩|⟨hb,h⟩
 ·refine zT hb (Ja (Jg (zE (Jc (Jq (Jn ?_))))))
  cases h
  exact zQ
 refine zU hb (Jk (Jc (Ja (Ja (Jg (zR 1 ?_))))))
 refine Kl (L:=(a0:(List Jf))) (by kernel_rfl) ?_
 refine zE (Jc (Jo ?_))
 obtain ⟨o8,h8,h⟩:=Ko h
 refine Kh 26 0 (fun x3=>⟨[(0,Jp .frozen (a0:(List Jf))),(1,Jp .frozen (a1:(List Jf))),(12,.int .i64 ((a0.length:Nat):Int)),(13,.int .i64 x3)],[],[],[]⟩) (fun (_:Unit)=>⟨[],[],[],[]⟩) h8 (by kernel_rfl) (fun _=>by kernel_rfl) ?_ ?_
 ·rintro x3 oh7 h7
  unfold Dv at h7
  refine Ja (Jg (zE (Jc (Ja ?_))))
  rcases Jl h7 with ⟨hb,h7⟩|⟨hb,h7⟩
  ·refine zT hb (Jk (Jc (Ja (Jo (Ja (Jg (zE (Jc (Ja (Qb (by kernel_rfl) (by kernel_rfl) (zR 2 ?_)))))))))))
   obtain ⟨x6,h9,h7⟩:=Ji h7
   refine zI h9 (zR 3 ?_)
   obtain ⟨x7,h10,h7⟩:=Ji h7
   refine zI h10 (zE (Jc ?_))
   rcases Jl h7 with ⟨hb,h7⟩|⟨hb,h7⟩
   ·refine zT hb (Ja (Jg (zE (Jc (Jq (Jr (Jn ?_)))))))
    cases h7
    refine Kf fun he=>?_
    subst he
    have h11:=Qd h
    refine Jr (Jn ?_)
    cases h11
    exact zQ
   refine zU hb (Jk (Kb (Jc (Jg (zE ?_)))))
   cases h7
   exact zB
  refine zU hb (Ka (Jx ?_))
  cases h7
  exact zX
 rintro _ s' rfl hs
 have h:=Kd h
 refine Jv (Jc (Ke hs (Ja (Jg (zE (Jc (Jq ?_)))))))
 cases h
 exact zQ
/-! slices.Equal[[]api.Linked,api.Linked] -/
noncomputable def Ec (a0:(List Jb)) (a1:(List Jb)):Int→Option (Int⊕(Unit⊕Bool)):=fun x3 =>
 bif decide (x3<((a0.length:Nat):Int)) then (
  (ixO a0 x3).bind fun x6 =>
  (ixO a1 x3).bind fun x7 =>
  bif (!(Ja9 x6 x7)) then (
   some (.inr (.inr false))
  ) else (
   some (.inl (w64 (x3+1)))
  )
 ) else (
  some (.inr (.inl ()))
 )
noncomputable def Zw (a0:(List Jb)) (a1:(List Jb)):Option Bool :=
 bif (!(decide (((a0.length:Nat):Int)=((a1.length:Nat):Int)))) then (
  some false
 ) else (
  onInl (α:=Unit) (β:=Bool) (Km (Ec a0 a1) 0) fun _ =>
  some true
 )
theorem Pk (a0:(List Jb)) (a1:(List Jb)) (r:Bool) (h:Zw a0 a1=some r):Kq Go.Proofs.Tryz.prog GlS 44 [Enc.pv a0,Enc.pv a1] (Enc.pv r):=by
 unfold Zw at h
 refine Js Go.Proofs.Tryz.func44 (by rfl) rfl Go.Proofs.Tryz.ntmps44 (by rfl) rfl ?_
 refine Ja (Jg (zE (Jc (Ja (Ja (Jg (zR 1 ?_)))))))
 refine Kl (L:=(a0:(List Jb))) (by kernel_rfl) ?_
 refine zR 1 ?_
 refine Kl (L:=(a1:(List Jb))) (by kernel_rfl) ?_
 refine zE (Jc ?_)
 rcases Jl h with ⟨hb,h⟩|⟨hb,h⟩
 ·refine zT hb (Ja (Jg (zE (Jc (Jq (Jn ?_))))))
  cases h
  exact zQ
 refine zU hb (Jk (Jc (Ja (Ja (Jg (zR 1 ?_))))))
 refine Kl (L:=(a0:(List Jb))) (by kernel_rfl) ?_
 refine zE (Jc (Jo ?_))
 obtain ⟨o8,h8,h⟩:=Ko h
 refine Kh 26 0 (fun x3=>⟨[(0,Jp .frozen (a0:(List Jb))),(1,Jp .frozen (a1:(List Jb))),(12,.int .i64 ((a0.length:Nat):Int)),(13,.int .i64 x3)],[],[],[]⟩) (fun (_:Unit)=>⟨[],[],[],[]⟩) h8 (by kernel_rfl) (fun _=>by kernel_rfl) ?_ ?_
 ·rintro x3 oh7 h7
  unfold Ec at h7
  refine Ja (Jg (zE (Jc (Ja ?_))))
  rcases Jl h7 with ⟨hb,h7⟩|⟨hb,h7⟩
  ·refine zT hb (Jk (Jc (Ja (Jo (Ja (Jg (zE (Jc (Ja (Qb (by kernel_rfl) (by kernel_rfl) (zR 2 ?_)))))))))))
   obtain ⟨x6,h9,h7⟩:=Ji h7
   refine zI h9 (zR 3 ?_)
   obtain ⟨x7,h10,h7⟩:=Ji h7
   refine zI h10 (zE (Jc ?_))
   rcases Jl h7 with ⟨hb,h7⟩|⟨hb,h7⟩
   ·refine zT hb (Ja (Jg (zE (Jc (Jq (Jr (Jn ?_)))))))
    cases h7
    refine Kf fun he=>?_
    subst he
    have h11:=Qd h
    refine Jr (Jn ?_)
    cases h11
    exact zQ
   refine zU hb (Jk (Kb (Jc (Jg (zE ?_)))))
   cases h7
   exact zB
  refine zU hb (Ka (Jx ?_))
  cases h7
  exact zX
 rintro _ s' rfl hs
 have h:=Kd h
 refine Jv (Jc (Ke hs (Ja (Jg (zE (Jc (Jq ?_)))))))
 cases h
 exact zQ
/-! authority.Same -/
noncomputable def Ng (a0:Kk) (a1:Kk):Option Bool :=
 ((bif ((decide (a0.Seq=a1.Seq))&&(decide (a0.End=a1.End))) then (
  (Zo a0.Profile a1.Profile).bind fun r2 =>
  some r2
 ) else some false):Option Bool).bind fun b1 =>
 ((bif b1 then (
  (Zw a0.Links a1.Links).bind fun r4 =>
  some r4
 ) else some false):Option Bool).bind fun b3 =>
 some b3
theorem Jdz (a0:Kk) (a1:Kk) (r:Bool) (h:Ng a0 a1=some r):Kq Go.Proofs.Tryz.prog GlS 17 [Enc.pv a0,Enc.pv a1] (Enc.pv r):=by
 unfold Ng at h
 refine Js Go.Proofs.Tryz.func17 (by rfl) rfl Go.Proofs.Tryz.ntmps17 (by rfl) rfl ?_
 refine Ja (Jg (zE (Jc (Ja (Jg (zR 6 ?_))))))
 refine Kx 6 16 ((decide (a0.Seq=a1.Seq))&&(decide (a0.End=a1.End))) (fun x hx=>?_) ?_
 ·rcases Wb hx with ⟨hb,hx⟩|⟨hb,hx⟩
  ·refine zS 10 hb ?_
   subst hx
   exact zF
  refine zS 10 hb ?_
  subst hx
  exact zF
 obtain ⟨b1,h1,h⟩:=Ji h
 refine zR 1 ?_
 refine Qf 6 23 (.bool b1) ?_ ?_
 ·rcases Jl h1 with ⟨hb,h1⟩|⟨hb,h1⟩
  ·refine zS 17 hb (zR 4 ?_)
   obtain ⟨r2,h2,h1⟩:=Ji h1
   refine Jy (Od _ _ r2 h2) (by kernel_rfl) (by kernel_rfl) ?_
   cases h1
   exact zF
  refine zS 17 hb ?_
  cases h1
  exact zF
 obtain ⟨b3,h3,h⟩:=Ji h
 refine zR 1 ?_
 refine Qf 6 30 (.bool b3) ?_ ?_
 ·rcases Jl h3 with ⟨hb,h3⟩|⟨hb,h3⟩
  ·refine zS 24 hb (zR 4 ?_)
   obtain ⟨r4,h4,h3⟩:=Ji h3
   refine Jy (Pk _ _ r4 h4) (by kernel_rfl) (by kernel_rfl) ?_
   cases h3
   exact zF
  refine zS 24 hb ?_
  cases h3
  exact zF
 refine zE (Jc (Jq ?_))
 cases h
 exact zQ
/-! profile.At -/
noncomputable def Mz (a0:(List Jf)) (a1:Int):Int→Option (Int⊕(Unit⊕(Jf×Bool))):=fun x3 =>
 bif decide (x3<((a0.length:Nat):Int)) then (
  (ixO a0 x3).bind fun x5 =>
  bif ((decide (x5.From≤a1))&&(decide (a1<x5.To))) then (
   some (.inr (.inr (x5,true)))
  ) else (
   some (.inl (w64 (x3+1)))
  )
 ) else (
  some (.inr (.inl ()))
 )
noncomputable def Gq (a0:(List Jf)) (a1:Int):Option (Jf×Bool) :=
 (Uz a0).bind fun r1 =>
 bif (!r1) then (
  some ((Jf.mk 0 0 0 0),false)
 ) else (
  onInl (α:=Unit) (β:=(Jf×Bool)) (Km (Mz a0 a1) 0) fun _ =>
  some ((Jf.mk 0 0 0 0),false)
 )
theorem Jbd (a0:(List Jf)) (a1:Int) (r:(Jf×Bool)) (h:Gq a0 a1=some r):Kq Go.Proofs.Tryz.prog GlS 36 [Enc.pv a0,Enc.pv a1] (.tup [Enc.pv r.1,Enc.pv r.2]):=by
 unfold Gq at h
 refine Js Go.Proofs.Tryz.func36 (by rfl) rfl Go.Proofs.Tryz.ntmps36 (by rfl) rfl ?_
 refine Ja (Jg (zE (Jc (Ja (Ja (Jg (zR 1 ?_)))))))
 obtain ⟨r1,h1,h⟩:=Ji h
 refine Jy (Wy _ r1 h1) (by kernel_rfl) (by kernel_rfl) (zE (Jc ?_))
 rcases Jl h with ⟨hb,h⟩|⟨hb,h⟩
 ·refine zT hb (Ja (Jg (zE (Jc (Jq (Jn ?_))))))
  cases h
  exact zQ
 refine zU hb (Jk (Jc (Ja (Ja (Jg (zR 1 ?_))))))
 refine Kl (L:=(a0:(List Jf))) (by kernel_rfl) ?_
 refine zE (Jc (Jo ?_))
 obtain ⟨o7,h7,h⟩:=Ko h
 refine Kh 31 0 (fun x3=>⟨[(1,.int .i64 a1),(4,.ref 4 0),(12,Jp .frozen (a0:(List Jf))),(13,.int .i64 ((a0.length:Nat):Int)),(14,.int .i64 x3)],[(4,.cells ([.int .i64 0,.int .i64 0,.int .i64 0,.int .i64 0]))],[],[]⟩) (fun (_:Unit)=>⟨[(4,.ref 4 0)],[(4,.cells ([.int .i64 0,.int .i64 0,.int .i64 0,.int .i64 0]))],[],[]⟩) h7 (by kernel_rfl) (fun _=>by kernel_rfl) ?_ ?_
 ·rintro x3 oh6 h6
  unfold Mz at h6
  refine Ja (Jg (zE (Jc (Ja ?_))))
  rcases Jl h6 with ⟨hb,h6⟩|⟨hb,h6⟩
  ·refine zT hb (Jk (Jc (Ja (Jo (Ja (Jg ?_))))))
   obtain ⟨x5,h8,h6⟩:=Ji h6
   refine zI h8 (zE (Jc (Ja (Jg (zR 5 ?_)))))
   refine Kx 5 27 ((decide (x5.From≤a1))&&(decide (a1<x5.To))) (fun x hx=>?_) ?_
   ·rcases Wb hx with ⟨hb,hx⟩|⟨hb,hx⟩
    ·refine zS 22 hb ?_
     subst hx
     exact zF
    refine zS 22 hb ?_
    subst hx
    exact zF
   refine zN (Jc ?_)
   rcases Jl h6 with ⟨hb,h6⟩|⟨hb,h6⟩
   ·refine zT hb (Ja (Jg (zE (Jc (Jq (Jr (Jn ?_)))))))
    cases h6
    refine Kf fun he=>?_
    subst he
    have h9:=Qd h
    refine Jr (Jn ?_)
    cases h9
    exact zQ
   refine zU hb (Jk (Kb (Jc (Jg (zE ?_)))))
   cases h6
   exact zB
  refine zU hb (Ka (Jx ?_))
  cases h6
  exact zX
 rintro _ s' rfl hs
 have h:=Kd h
 refine Jv (Jc (Ke hs (Ja (Jg (zE (Jc (Jq ?_)))))))
 cases h
 exact zQ
/-! authority.Extends -/
noncomputable def Wu (a0:Kk) (a1:Kk):Int→Option (Int⊕(Unit⊕Bool)):=fun x8 =>
 bif decide (x8<a0.End) then (
  (Gq a0.Profile x8).bind fun r11 =>
  (Gq a1.Profile x8).bind fun r12 =>
  bif ((((!r11.2)||(!r12.2))||(!(decide (r11.1.Grade=r12.1.Grade))))||(!(decide (r11.1.Speed=r12.1.Speed)))) then (
   some (.inr (.inr false))
  ) else (
   bif decide ((min r11.1.To r12.1.To)≤x8) then (
    some (.inr (.inr false))
   ) else (
    some (.inl (min r11.1.To r12.1.To))
   )
  )
 ) else (
  some (.inr (.inl ()))
 )
noncomputable def Vc (a0:Kk) (a1:Kk):Option Bool :=
 (Vo a0).bind fun r1 =>
 ((bif (!r1) then some true else (
  (Vo a1).bind fun r3 =>
  some (!r3)
 )):Option Bool).bind fun b2 =>
 bif (b2||(decide (a1.End<a0.End))) then (
  some false
 ) else (
  (ixO a0.Profile 0).bind fun x4 =>
  (ixO a1.Profile 0).bind fun x5 =>
  onInl (α:=Unit) (β:=Bool) (Km (Wu a0 a1) (max x4.From x5.From)) fun _ =>
  some true
 )
theorem Cu (a0:Kk) (a1:Kk) (r:Bool) (h:Vc a0 a1=some r):Kq Go.Proofs.Tryz.prog GlS 12 [Enc.pv a0,Enc.pv a1] (Enc.pv r):=by
 unfold Vc at h
 refine Js Go.Proofs.Tryz.func12 (by rfl) rfl Go.Proofs.Tryz.ntmps12 (by rfl) rfl ?_
 refine Ja (Jg (zE (Jc (Ja (Ja (Jg (zR 1 ?_)))))))
 obtain ⟨r1,h1,h⟩:=Ji h
 refine Jy (Bj _ r1 h1) (by kernel_rfl) (by kernel_rfl) ?_
 obtain ⟨b2,h2,h⟩:=Ji h
 refine zR 2 ?_
 refine Qf 4 18 (.bool b2) ?_ ?_
 ·rcases Jl h2 with ⟨hb,h2⟩|⟨hb,h2⟩
  ·refine zS 14 hb ?_
   cases h2
   exact zF
  refine zS 14 hb (zR 1 ?_)
  obtain ⟨r3,h3,h2⟩:=Ji h2
  refine Jy (Bj _ r3 h3) (by kernel_rfl) (by kernel_rfl) ?_
  cases h2
  exact zF
 refine zR 1 ?_
 refine Kx 6 25 (b2||(decide (a1.End<a0.End))) (fun x hx=>?_) ?_
 ·rcases Wx hx with ⟨hb,hx⟩|⟨hb,hx⟩
  ·refine zS 19 hb ?_
   subst hx
   exact zF
  refine zS 19 hb ?_
  subst hx
  exact zF
 refine zN (Jc ?_)
 rcases Jl h with ⟨hb,h⟩|⟨hb,h⟩
 ·refine zT hb (Ja (Jg (zE (Jc (Jq (Jn ?_))))))
  cases h
  exact zQ
 refine zU hb (Jk (Jc (Ja (Qb (by kernel_rfl) (by kernel_rfl) (zR 2 ?_)))))
 obtain ⟨x4,h4,h⟩:=Ji h
 refine zI h4 (zR 4 ?_)
 obtain ⟨x5,h5,h⟩:=Ji h
 refine zI h5 (zE (Jc (Ja (Jo ?_))))
 obtain ⟨o15,h15,h⟩:=Ko h
 refine Kh 84 0 (fun x8=>⟨[(2,.ref 2 0),(3,.ref 3 0),(5,.int .i64 x8)],[(2,.cells (cellsOf a0)),(3,.cells (cellsOf a1))],[],[]⟩) (fun (_:Unit)=>⟨[],[],[],[]⟩) h15 (by kernel_rfl) (fun _=>by kernel_rfl) ?_ ?_
 ·rintro x8 oh14 h14
  unfold Wu at h14
  refine Ja (Ja (Jg (zE (Jc ?_))))
  rcases Jl h14 with ⟨hb,h14⟩|⟨hb,h14⟩
  ·refine zT hb (Jk (Jc (Jo (Ja (Jg (zR 3 ?_))))))
   obtain ⟨r11,h16,h14⟩:=Ji h14
   refine Jy (Jbd _ _ r11 h16) (by kernel_rfl) (by kernel_rfl) (zE (Jc (Ja (Jg (zR 3 ?_)))))
   obtain ⟨r12,h17,h14⟩:=Ji h14
   refine Jy (Jbd _ _ r12 h17) (by kernel_rfl) (by kernel_rfl) (zE (Jc (Ja (Ja (Jg (zR 3 ?_))))))
   refine Kx 3 60 ((!r11.2)||(!r12.2)) (fun x hx=>?_) ?_
   ·rcases Wx hx with ⟨hb,hx⟩|⟨hb,hx⟩
    ·refine zS 57 hb ?_
     subst hx
     exact zF
    refine zS 57 hb ?_
    subst hx
    exact zF
   refine zR 1 ?_
   refine Kx 6 67 (((!r11.2)||(!r12.2))||(!(decide (r11.1.Grade=r12.1.Grade)))) (fun x hx=>?_) ?_
   ·rcases Wx hx with ⟨hb,hx⟩|⟨hb,hx⟩
    ·refine zS 61 hb ?_
     subst hx
     exact zF
    refine zS 61 hb ?_
    subst hx
    exact zF
   refine zR 1 ?_
   refine Kx 6 74 ((((!r11.2)||(!r12.2))||(!(decide (r11.1.Grade=r12.1.Grade))))||(!(decide (r11.1.Speed=r12.1.Speed)))) (fun x hx=>?_) ?_
   ·rcases Wx hx with ⟨hb,hx⟩|⟨hb,hx⟩
    ·refine zS 68 hb ?_
     subst hx
     exact zF
    refine zS 68 hb ?_
    subst hx
    exact zF
   refine zN (Jc ?_)
   rcases Jl h14 with ⟨hb,h14⟩|⟨hb,h14⟩
   ·refine zT hb (Ja (Jg (zE (Jc (Jq (Jn (Jr ?_)))))))
    cases h14
    refine Kf fun he=>?_
    subst he
    have h18:=Qd h
    refine Jr (Jn ?_)
    cases h18
    exact zQ
   refine zU hb (Jk (Jc (Ja (Jg (zE (Jc (Ja (Ja (Jg (zE (Jc ?_)))))))))))
   rcases Jl h14 with ⟨hb,h14⟩|⟨hb,h14⟩
   ·refine zT hb (Ja (Jg (zE (Jc (Jq (Jn (Jr ?_)))))))
    cases h14
    refine Kf fun he=>?_
    subst he
    have h19:=Qd h
    refine Jr (Jn ?_)
    cases h19
    exact zQ
   refine zU hb (Jk (Jc (Jg (zE (Kb ?_)))))
   cases h14
   exact zB
  refine zU hb (Ka (Jx ?_))
  cases h14
  exact zX
 rintro _ s' rfl hs
 have h:=Kd h
 refine Jv (Jc (Ke hs (Ja (Jg (zE (Jc (Jq ?_)))))))
 cases h
 exact zQ
/-! signallinglaw45.alive -/
noncomputable def Yb : Option Bool :=
 (Ll ).bind fun r1 =>
 (Ve r1 (Kj.mk 0 (-15000) 0 5000 [(Jd.mk 0 0 1)] [] [] [] [] 0 0 0 0 0) ([]:(List Ju)) 1).bind fun r2 =>
 (Vg [(Jd.mk 0 0 1)] [(Jd.mk 1 0 1)]).bind fun x3 =>
 (Ll ).bind fun r4 =>
 (Ve r4 (Kj.mk 0 (-15000) 0 25000 x3 [] [] [] [] 0 0 0 0 0) ([]:(List Ju)) 2).bind fun r5 =>
 (Ll ).bind fun r6 =>
 (Ve r6 (Kj.mk 0 (-15000) 0 26000 x3 [] [] [] [] 0 0 0 0 0) ([]:(List Ju)) 3).bind fun r7 =>
 ((bif (((decide (r2.2=0))&&(decide (r5.2=0)))&&(decide (r7.2=2))) then (
  (Jam r2.1 (Kk.mk 1 5000 [(Jf.mk (-15000) 5000 0 3000)] [])).bind fun r9 =>
  some r9
 ) else some false):Option Bool).bind fun b8 =>
 ((bif b8 then (
  (Ng r2.1 (Kk.mk 1 5000 [(Jf.mk (-15000) 5000 0 3000)] [])).bind fun r11 =>
  some r11
 ) else some false):Option Bool).bind fun b10 =>
 ((bif b10 then (
  (Vo r5.1).bind fun r13 =>
  some r13
 ) else some false):Option Bool).bind fun b12 =>
 ((bif b12 then (
  some (decide (((r5.1.Profile.length:Nat):Int)=2))
 ) else some false):Option Bool).bind fun b14 =>
 ((bif b14 then (
  (Vc r2.1 r5.1).bind fun r16 =>
  some r16
 ) else some false):Option Bool).bind fun b15 =>
 ((bif b15 then (
  (Vc r5.1 r2.1).bind fun r18 =>
  some (!r18)
 ) else some false):Option Bool).bind fun b17 =>
 some b17
set_option maxRecDepth 100000 in
theorem Gk (r:Bool) (h:Yb=some r):Kq Go.Proofs.Tryz.prog GlS 7 [] (Enc.pv r):=by
 unfold Yb at h
 refine Js Go.Proofs.Tryz.func7 (by rfl) rfl Go.Proofs.Tryz.ntmps7 (by rfl) rfl ?_
 refine Ja (Jg (zE (Jc (Ja (Jg (zE (Jc (Ja (Qb (by kernel_rfl) (by kernel_rfl) ?_)))))))))
 obtain ⟨r1,h1,h⟩:=Ji h
 refine Jy (Pi  r1 h1) (by kernel_rfl) (by kernel_rfl) (zR 1 ?_)
 obtain ⟨r2,h2,h⟩:=Ji h
 refine Jy (Ye _ _ _ _ r2 h2) (by kernel_rfl) (by kernel_rfl) (zE (Jc (Ja (Jg (zR 4 ?_)))))
 obtain ⟨x3,h3,h⟩:=Ji h
 refine Jcl (tk:=22) h3 (by kernel_rfl) ?_
 refine zE (Jc (Ja (Jg (zE (Jc (Ja (Qb (by kernel_rfl) (by kernel_rfl) ?_)))))))
 obtain ⟨r4,h4,h⟩:=Ji h
 refine Jy (Pi  r4 h4) (by kernel_rfl) (by kernel_rfl) (zR 1 ?_)
 obtain ⟨r5,h5,h⟩:=Ji h
 refine Jy (Ye _ _ _ _ r5 h5) (by kernel_rfl) (by kernel_rfl) (zE (Jc (Ja (Jg (zE (Jc (Ja (Qb (by kernel_rfl) (by kernel_rfl) ?_))))))))
 obtain ⟨r6,h6,h⟩:=Ji h
 refine Jy (Pi  r6 h6) (by kernel_rfl) (by kernel_rfl) (zR 1 ?_)
 obtain ⟨r7,h7,h⟩:=Ji h
 refine Jy (Ye _ _ _ _ r7 h7) (by kernel_rfl) (by kernel_rfl) (zE (Jc (Ja (Jg (zE (Jc (Ja (Jg (zR 3 ?_)))))))))
 refine Kx 3 46 ((decide (r2.2=0))&&(decide (r5.2=0))) (fun x hx=>?_) ?_
 ·rcases Wb hx with ⟨hb,hx⟩|⟨hb,hx⟩
  ·refine zS 43 hb ?_
   subst hx
   exact zF
  refine zS 43 hb ?_
  subst hx
  exact zF
 refine zR 1 ?_
 refine Kx 3 50 (((decide (r2.2=0))&&(decide (r5.2=0)))&&(decide (r7.2=2))) (fun x hx=>?_) ?_
 ·rcases Wb hx with ⟨hb,hx⟩|⟨hb,hx⟩
  ·refine zS 47 hb ?_
   subst hx
   exact zF
  refine zS 47 hb ?_
  subst hx
  exact zF
 obtain ⟨b8,h8,h⟩:=Ji h
 refine zR 1 ?_
 refine Qf 4 55 (.bool b8) ?_ ?_
 ·rcases Jl h8 with ⟨hb,h8⟩|⟨hb,h8⟩
  ·refine zS 51 hb (zR 2 ?_)
   obtain ⟨r9,h9,h8⟩:=Ji h8
   refine Jy (Jju _ _ r9 h9) (by kernel_rfl) (by kernel_rfl) ?_
   cases h8
   exact zF
  refine zS 51 hb ?_
  cases h8
  exact zF
 obtain ⟨b10,h10,h⟩:=Ji h
 refine zR 1 ?_
 refine Qf 4 60 (.bool b10) ?_ ?_
 ·rcases Jl h10 with ⟨hb,h10⟩|⟨hb,h10⟩
  ·refine zS 56 hb (zR 2 ?_)
   obtain ⟨r11,h11,h10⟩:=Ji h10
   refine Jy (Jdz _ _ r11 h11) (by kernel_rfl) (by kernel_rfl) ?_
   cases h10
   exact zF
  refine zS 56 hb ?_
  cases h10
  exact zF
 obtain ⟨b12,h12,h⟩:=Ji h
 refine zR 1 ?_
 refine Qf 3 64 (.bool b12) ?_ ?_
 ·rcases Jl h12 with ⟨hb,h12⟩|⟨hb,h12⟩
  ·refine zS 61 hb (zR 1 ?_)
   obtain ⟨r13,h13,h12⟩:=Ji h12
   refine Jy (Bj _ r13 h13) (by kernel_rfl) (by kernel_rfl) ?_
   cases h12
   exact zF
  refine zS 61 hb ?_
  cases h12
  exact zF
 obtain ⟨b14,h14,h⟩:=Ji h
 refine zR 1 ?_
 refine Qf 5 70 (.bool b14) ?_ ?_
 ·rcases Jl h14 with ⟨hb,h14⟩|⟨hb,h14⟩
  ·refine zS 65 hb (zR 2 ?_)
   refine Kl (L:=(r5.1.Profile:(List Jf))) (by kernel_rfl) ?_
   cases h14
   exact zF
  refine zS 65 hb ?_
  cases h14
  exact zF
 obtain ⟨b15,h15,h⟩:=Ji h
 refine zR 1 ?_
 refine Qf 4 75 (.bool b15) ?_ ?_
 ·rcases Jl h15 with ⟨hb,h15⟩|⟨hb,h15⟩
  ·refine zS 71 hb (zR 2 ?_)
   obtain ⟨r16,h16,h15⟩:=Ji h15
   refine Jy (Cu _ _ r16 h16) (by kernel_rfl) (by kernel_rfl) ?_
   cases h15
   exact zF
  refine zS 71 hb ?_
  cases h15
  exact zF
 obtain ⟨b17,h17,h⟩:=Ji h
 refine zR 1 ?_
 refine Qf 5 81 (.bool b17) ?_ ?_
 ·rcases Jl h17 with ⟨hb,h17⟩|⟨hb,h17⟩
  ·refine zS 76 hb (zR 2 ?_)
   obtain ⟨r18,h18,h17⟩:=Ji h17
   refine Jy (Cu _ _ r18 h18) (by kernel_rfl) (by kernel_rfl) ?_
   cases h17
   exact zF
  refine zS 76 hb ?_
  cases h17
  exact zF
 refine zE (Jc (Jq ?_))
 cases h
 exact zQ
/-! signallingref09.exists -/
noncomputable def Yf (a0:Je) (a1:Int):Option Bool :=
 ((bif decide (0≤a1) then (
  some (decide (a1<((a0.Elements.length:Nat):Int)))
 ) else some false):Option Bool).bind fun b1 =>
 some b1
theorem Ek (a0:Je) (a1:Int) (r:Bool) (h:Yf a0 a1=some r):Kq Go.Proofs.Tryz.prog GlS 109 [Enc.pv a0,Enc.pv a1] (Enc.pv r):=by
 unfold Yf at h
 refine Js Go.Proofs.Tryz.func109 (by rfl) rfl Go.Proofs.Tryz.ntmps109 (by rfl) rfl ?_
 refine Ja (Jg (zE (Jc (Ja (Jg ?_)))))
 obtain ⟨b1,h1,h⟩:=Ji h
 refine zR 3 ?_
 refine Qf 6 13 (.bool b1) ?_ ?_
 ·rcases Jl h1 with ⟨hb,h1⟩|⟨hb,h1⟩
  ·refine zS 7 hb (zR 3 ?_)
   refine Kl (L:=(a0.Elements:(List Jw))) (by kernel_rfl) ?_
   cases h1
   exact zF
  refine zS 7 hb ?_
  cases h1
  exact zF
 refine zE (Jc (Jq ?_))
 cases h
 exact zQ
end PM
