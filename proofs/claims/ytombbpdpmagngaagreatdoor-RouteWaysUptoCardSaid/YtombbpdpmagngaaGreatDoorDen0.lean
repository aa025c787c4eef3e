/-
 Plain functions for the program's functions, and the proofs that the program does them. Printed by den.py.
-/
import Derived.Test.YtombbpdpmagngaaGreatDoorPmSo
import Derived.Test.YtombbpdpmagngaaGreatDoorPmZ
import Derived.Test.YtombbpdpmagngaaGreatDoorPmI
import Derived.Test.YtombbpdpmagngaaGreatDoorPmQt
import Derived.Test.YtombbpdpmagngaaGreatDoorPmSt
import Derived.Test.YtombbpdpmagngaaGreatDoorPmR
import Derived.Test.YtombbpdpmagngaaGreatDoorPlA
import Derived.Test.YtombbpdpmagngaaGreatDoorProg
import Derived.Test.YtombbpdpmagngaaGreatDoorLay
import Derived.Test.YtombbpdpmagngaaGreatDoorChecked
namespace PM
open Go Go.RowKit
attribute [local irreducible] Kp pwp
structure Qd where
 kind_:Int
 in_:Int
 out_:Int
 need_:Int
instance : Enc Qd:=⟨4,32,fun x=>.agg [.int .i64 x.kind_,.int .i64 x.in_,.int .i64 x.out_,.int .i64 x.need_]⟩
instance : Inhabited Qd:=⟨⟨0,0,0,0⟩⟩
structure Jq where
 Name:ByteArray
 Kind:Int
 Length:Int
 Grade:Int
 Speed:Int
 Slow:Int
 Section:Int
instance : Enc Jq:=⟨7,64,fun x=>.agg [.str x.Name,.int .i64 x.Kind,.int .i64 x.Length,.int .i64 x.Grade,.int .i64 x.Speed,.int .i64 x.Slow,.int .i64 x.Section]⟩
instance : Inhabited Jq:=⟨⟨ByteArray.empty,0,0,0,0,0,0⟩⟩
structure Jg where
 El:Int
 Side:Int
instance : Enc Jg:=⟨2,16,fun x=>.agg [.int .i64 x.El,.int .i64 x.Side]⟩
instance : Inhabited Jg:=⟨⟨0,0⟩⟩
def Ka (x y:Jg):Bool:=(decide (x.El=y.El)&&(decide (x.Side=y.Side)&&true))
instance : DecidableEq Jg:=fun x y=>decidable_of_iff (Ka x y=true) (by cases x; cases y; simp [Ka])
instance : Key Jg:={ (inferInstance:Enc Jg) with deq:=inferInstance,keq:=fun a b=>by cases a with|mk x y=>cases b with|mk x' y'=>(show some (decide (x=x')&&decide (y=y'))=_; simp) }
structure Jx where
 A:Jg
 B:Jg
instance : Enc Jx:=⟨4,32,fun x=>.agg [.int .i64 x.A.El,.int .i64 x.A.Side,.int .i64 x.B.El,.int .i64 x.B.Side]⟩
instance : Inhabited Jx:=⟨⟨default,default⟩⟩
structure Js where
 Name:ByteArray
 At:Jg
 Overlap:Int
instance : Enc Js:=⟨4,40,fun x=>.agg [.str x.Name,.int .i64 x.At.El,.int .i64 x.At.Side,.int .i64 x.Overlap]⟩
instance : Inhabited Js:=⟨⟨ByteArray.empty,default,0⟩⟩
structure Kh where
 Id:Int
 El:Int
 Offset:Int
instance : Enc Kh:=⟨3,24,fun x=>.agg [.int .i64 x.Id,.int .i64 x.El,.int .i64 x.Offset]⟩
instance : Inhabited Kh:=⟨⟨0,0,0⟩⟩
structure Jd where
 Name:ByteArray
 Sections:(List ByteArray)
 Elements:(List Jq)
 Joints:(List Jx)
 Signals:(List Js)
 Balises:(List Kh)
instance : Enc Jd:=⟨6,136,fun x=>.agg [.str x.Name,Jo .frozen x.Sections,Jo .frozen x.Elements,Jo .frozen x.Joints,Jo .frozen x.Signals,Jo .frozen x.Balises]⟩
instance : Inhabited Jd:=⟨⟨ByteArray.empty,[],[],[],[],[]⟩⟩
structure Qs where
 x0:(List ByteArray)
 x1:(List ByteArray)
 x2:(List ByteArray)
instance : Enc Qs:=⟨3,72,fun x=>.agg [Jo .frozen x.x0,Jo .frozen x.x1,Jo .frozen x.x2]⟩
instance : Inhabited Qs:=⟨⟨[],[],[]⟩⟩
structure Jb where
 El:Int
 In:Int
 Out:Int
instance : Enc Jb:=⟨3,24,fun x=>.agg [.int .i64 x.El,.int .i64 x.In,.int .i64 x.Out]⟩
instance : Inhabited Jb:=⟨⟨0,0,0⟩⟩
def Lj (x y:Jb):Bool:=(decide (x.El=y.El)&&(decide (x.In=y.In)&&(decide (x.Out=y.Out)&&true)))
structure Je where
 El:Int
 Pos:Int
instance : Enc Je:=⟨2,16,fun x=>.agg [.int .i64 x.El,.int .i64 x.Pos]⟩
instance : Inhabited Je:=⟨⟨0,0⟩⟩
def Ua (x y:Je):Bool:=(decide (x.El=y.El)&&(decide (x.Pos=y.Pos)&&true))
structure Jl where
 Name:ByteArray
 Entry:Int
 Exit:Int
 Path:(List Jb)
 Points:(List Je)
 Sections:(List Int)
 Approach:Int
 Length:Int
 Over:(List Jb)
 OverPoints:(List Je)
 OverSections:(List Int)
 Flank:(List Je)
 Guards:(List Int)
 Gaps:(List Jg)
instance : Enc Jl:=⟨14,264,fun x=>.agg [.str x.Name,.int .i64 x.Entry,.int .i64 x.Exit,Jo .frozen x.Path,Jo .frozen x.Points,Jo .frozen x.Sections,.int .i64 x.Approach,.int .i64 x.Length,Jo .frozen x.Over,Jo .frozen x.OverPoints,Jo .frozen x.OverSections,Jo .frozen x.Flank,Jo .frozen x.Guards,Jo .frozen x.Gaps]⟩
instance : Inhabited Jl:=⟨⟨ByteArray.empty,0,0,[],[],[],0,0,[],[],[],[],[],[]⟩⟩
structure Jz where
 l_:Jd
 paths_:(List (List Jb))
instance : Enc Jz:=⟨7,160,fun x=>.agg [.str x.l_.Name,Jo .frozen x.l_.Sections,Jo .frozen x.l_.Elements,Jo .frozen x.l_.Joints,Jo .frozen x.l_.Signals,Jo .frozen x.l_.Balises,Jo .frozen x.paths_]⟩
instance : Inhabited Jz:=⟨⟨default,[]⟩⟩
structure Jw where
 L:(List (List Jb))
instance : Enc Jw:=⟨1,24,fun x=>.agg [Jo .frozen x.L]⟩
instance : Inhabited Jw:=⟨⟨[]⟩⟩
def Kj : List Qd:=[(Qd.mk 1 0 1 0),(Qd.mk 1 1 0 0),(Qd.mk 2 0 1 1),(Qd.mk 2 0 2 2),(Qd.mk 2 1 0 1),(Qd.mk 2 2 0 2),(Qd.mk 3 0 1 0),(Qd.mk 3 1 0 0),(Qd.mk 3 2 3 0),(Qd.mk 3 3 2 0)]
def Bn : List U64:=[⟨1⟩,⟨10⟩,⟨100⟩,⟨1000⟩,⟨10000⟩,⟨100000⟩,⟨1000000⟩,⟨10000000⟩,⟨100000000⟩,⟨1000000000⟩,⟨10000000000⟩,⟨100000000000⟩,⟨1000000000000⟩,⟨10000000000000⟩,⟨100000000000000⟩,⟨1000000000000000⟩,⟨10000000000000000⟩,⟨100000000000000000⟩,⟨1000000000000000000⟩,⟨10000000000000000000⟩]
def Ee : List Int:=[0,2,3,4]
def GlS : Nat→Option (List PV)
 | 0=>some (Kj.flatMap cellsOf)
 | 1=>some (Bn.flatMap cellsOf)
 | 2=>some (Ee.flatMap cellsOf)
 | _=>none
/-! signallingref07.names -/
noncomputable def Gi (a0:Jd):(Int×(List ByteArray))→Option ((Int×(List ByteArray))⊕((List ByteArray)⊕Qs)):=fun (x7,x8) =>
 bif decide (x7<((a0.Elements.length:Nat):Int)) then (
  (ixO a0.Elements x7).bind fun x12 =>
  (Vv x8 [x12.Name]).bind fun x13 =>
  some (.inl (w64 (x7+1),x13))
 ) else (
  some (.inr (.inl x8))
 )
noncomputable def Ge (a0:Jd):(Int×(List ByteArray))→Option ((Int×(List ByteArray))⊕((List ByteArray)⊕Qs)):=fun (x19,x20) =>
 bif decide (x19<((a0.Signals.length:Nat):Int)) then (
  (ixO a0.Signals x19).bind fun x24 =>
  (Vv x20 [x24.Name]).bind fun x25 =>
  some (.inl (w64 (x19+1),x25))
 ) else (
  some (.inr (.inl x20))
 )
noncomputable def Fu (a0:Jd):Option Qs :=
 (Vv ([]:(List ByteArray)) a0.Sections).bind fun x1 =>
 onInl (α:=(List ByteArray)) (β:=Qs) (Kl (Gi a0) (0,([]:(List ByteArray)))) fun x11 =>
 onInl (α:=(List ByteArray)) (β:=Qs) (Kl (Ge a0) (0,([]:(List ByteArray)))) fun x23 =>
 some (Qs.mk x1 x11 x23)
theorem Jeo (a0:Jd) (r:Qs) (h:Fu a0=some r):Km Go.Proofs.Tryz.prog GlS 77 [Enc.pv a0] (Enc.pv r):=by
 unfold Fu at h
 refine Jr Go.Proofs.Tryz.func77 (by rfl) rfl Go.Proofs.Tryz.ntmps77 (by rfl) rfl ?_
 refine Ja (Jf (zE (Jc (Ja (Jf (zE (Jc (Ja (Jf (zR 4 ?_))))))))))
 obtain ⟨x1,h1,h⟩:=Jh h
 refine Jpa (tk:=13) h1 (by kernel_rfl) ?_
 refine zE (Jc (Ja (Ja (Jf (zR 2 ?_)))))
 refine Kf (L:=(a0.Elements:(List Jq))) (by kernel_rfl) ?_
 refine zE (Jc (Jn ?_))
 refine Ke (Ja7 3 1 200301 1 16 (cs:=[Jo (.own 13) (x1:(List ByteArray)),.nil,.nil]) (by kernel_rfl) (by kernel_rfl) (by kernel_rfl)) ?_
 obtain ⟨o9,h9,h⟩:=Kq h
 refine Ki 46 0 (fun (x7,x8)=>⟨[(1,.ref 1 0),(2,.ref 2 0),(3,.ref 3 0),(16,Jo .frozen (a0.Elements:(List Jq))),(17,.int .i64 ((a0.Elements.length:Nat):Int)),(18,.int .i64 x7)],[(1,.cells (cellsOf a0)),(2,.cells ([.nil,.nil,.nil])),(3,.cells ([Jo (.own 13) (x1:(List ByteArray)),Jo (.own 200301) (x8:(List ByteArray)),.nil]))],[(13,(((x1).map cellsOf).length,1)),(200301,(((x8).map cellsOf).length,1))],[]⟩) (fun x11=>⟨[(1,.ref 1 0),(2,.ref 2 0),(3,.ref 3 0)],[(1,.cells (cellsOf a0)),(2,.cells ([.nil,.nil,.nil])),(3,.cells ([Jo (.own 13) (x1:(List ByteArray)),Jo (.own 200301) (x11:(List ByteArray)),.nil]))],[(13,(((x1).map cellsOf).length,1)),(200301,(((x11).map cellsOf).length,1))],[]⟩) h9 (by kernel_rfl) (fun _=>by kernel_rfl) ?_ ?_
 ·rintro ⟨x7,x8⟩ oh8 h8
  unfold Gi at h8
  refine Ja (Jf (zE (Jc (Ja ?_))))
  rcases Jk h8 with ⟨hb,h8⟩|⟨hb,h8⟩
  ·refine zT hb (Jj (Jc (Ja (Jn (Ja (Jf ?_))))))
   obtain ⟨x12,h10,h8⟩:=Jh h8
   refine zI h10 (zE (Jc (Jf (zR 5 ?_))))
   obtain ⟨x13,h11,h8⟩:=Jh h8
   refine Zz (tk:=200301) h11 (by kernel_rfl) (by kernel_rfl) ?_
   refine zE (Kd (Jc (Jf (zE ?_))))
   cases h8
   exact zB
  refine zU hb (Kc (Jv ?_))
  cases h8
  exact zX
 rintro x11 s' rfl hs
 have h:=Kg h
 refine Jt (Jc (Ke hs (Ja (Ja (Jf (zR 2 ?_))))))
 refine Kf (L:=(a0.Signals:(List Js))) (by kernel_rfl) ?_
 refine zE (Jc (Jn ?_))
 refine Ke (Ja7 3 2 200302 1 16 (cs:=[Jo (.own 13) (x1:(List ByteArray)),Jo (.own 200301) (x11:(List ByteArray)),.nil]) (by kernel_rfl) (by kernel_rfl) (by kernel_rfl)) ?_
 obtain ⟨o19,h19,h⟩:=Kq h
 refine Ki 46 2 (fun (x19,x20)=>⟨[(2,.ref 2 0),(3,.ref 3 0),(31,Jo .frozen (a0.Signals:(List Js))),(32,.int .i64 ((a0.Signals.length:Nat):Int)),(33,.int .i64 x19)],[(2,.cells ([.nil,.nil,.nil])),(3,.cells ([Jo (.own 13) (x1:(List ByteArray)),Jo (.own 200301) (x11:(List ByteArray)),Jo (.own 200302) (x20:(List ByteArray))]))],[(13,(((x1).map cellsOf).length,1)),(200301,(((x11).map cellsOf).length,1)),(200302,(((x20).map cellsOf).length,1))],[]⟩) (fun x23=>⟨[(2,.ref 2 0),(3,.ref 3 0)],[(2,.cells ([.nil,.nil,.nil])),(3,.cells ([Jo (.own 13) (x1:(List ByteArray)),Jo (.own 200301) (x11:(List ByteArray)),Jo (.own 200302) (x23:(List ByteArray))]))],[(13,(((x1).map cellsOf).length,1)),(200301,(((x11).map cellsOf).length,1)),(200302,(((x23).map cellsOf).length,1))],[]⟩) h19 (by kernel_rfl) (fun _=>by kernel_rfl) ?_ ?_
 ·rintro ⟨x19,x20⟩ oh18 h18
  unfold Ge at h18
  refine Ja (Jf (zE (Jc (Ja ?_))))
  rcases Jk h18 with ⟨hb,h18⟩|⟨hb,h18⟩
  ·refine zT hb (Jj (Jc (Ja (Jn (Ja (Jf ?_))))))
   obtain ⟨x24,h20,h18⟩:=Jh h18
   refine zI h20 (zE (Jc (Jf (zR 5 ?_))))
   obtain ⟨x25,h21,h18⟩:=Jh h18
   refine Zz (tk:=200302) h21 (by kernel_rfl) (by kernel_rfl) ?_
   refine zE (Kd (Jc (Jf (zE ?_))))
   cases h18
   exact zB
  refine zU hb (Kc (Jv ?_))
  cases h18
  exact zX
 rintro x23 s' rfl hs
 have h:=Kg h
 refine Jt (Jc (Ke hs (Ja (Jf (zE (Jc (Jp ?_)))))))
 cases h
 exact zQ
/-! signallingref05.Name -/
noncomputable def Hn (a0:ByteArray):Int→Option (Int⊕(Unit⊕Bool)):=fun x9 =>
 bif decide (x9<((a0.size:Nat):Int)) then (
  (Ji5 a0 x9).bind fun x18 =>
  ((bif decide (97≤x18) then (
   (Ji5 a0 x9).bind fun x20 =>
   some (decide (x20≤122))
  ) else some false):Option Bool).bind fun b19 =>
  (Ji5 a0 x9).bind fun x21 =>
  ((bif decide (48≤x21) then (
   (Ji5 a0 x9).bind fun x23 =>
   some (decide (x23≤57))
  ) else some false):Option Bool).bind fun b22 =>
  ((bif b22 then some true else (
   (Ji5 a0 x9).bind fun x25 =>
   some (decide (x25=95))
  )):Option Bool).bind fun b24 =>
  bif ((!b19)&&((!b24)||(decide (x9=0)))) then (
   some (.inr (.inr false))
  ) else (
   some (.inl (w64 (x9+1)))
  )
 ) else (
  some (.inr (.inl ()))
 )
noncomputable def Ho (a0:ByteArray):Option Bool :=
 onInl (α:=Unit) (β:=Bool) (Kl (Hn a0) 0) fun _ =>
 some ((decide (1≤((a0.size:Nat):Int)))&&(decide (((a0.size:Nat):Int)≤12)))
theorem Jgj (a0:ByteArray) (r:Bool) (h:Ho a0=some r):Km Go.Proofs.Tryz.prog GlS 78 [Enc.pv a0] (Enc.pv r):=by
 unfold Ho at h
 refine Jr Go.Proofs.Tryz.func78 (by rfl) rfl Go.Proofs.Tryz.ntmps78 (by rfl) rfl ?_
 refine Ja (Jf (zE (Jc (Ja (Ja (Jf (zE (Jc (Jn ?_)))))))))
 obtain ⟨o20,h20,h⟩:=Kq h
 refine Ki 56 0 (fun x9=>⟨[(0,.str a0),(3,.int .i64 x9)],[],[],[]⟩) (fun (_:Unit)=>⟨[(0,.str a0)],[],[],[]⟩) h20 (by kernel_rfl) (fun _=>by kernel_rfl) ?_ ?_
 ·rintro x9 oh19 h19
  unfold Hn at h19
  refine Ja (Ja (Jf (zE (Jc ?_))))
  rcases Jk h19 with ⟨hb,h19⟩|⟨hb,h19⟩
  ·refine zT hb (Jj (Jc (Ja (Jn (Ja (Jf (zR 2 ?_)))))))
   obtain ⟨x18,h21,h19⟩:=Jh h19
   refine Jic h21 (by kernel_rfl) ?_
   obtain ⟨b19,h22,h19⟩:=Jh h19
   refine zR 2 ?_
   refine Kt 5 21 (.bool b19) ?_ ?_
   ·rcases Jk h22 with ⟨hb,h22⟩|⟨hb,h22⟩
    ·refine zS 16 hb (zR 2 ?_)
     obtain ⟨x20,h23,h22⟩:=Jh h22
     refine Jic h23 (by kernel_rfl) ?_
     cases h22
     exact zF
    refine zS 16 hb ?_
    cases h22
    exact zF
   refine zE (Jc (Ja (Jf (zR 2 ?_))))
   obtain ⟨x21,h24,h19⟩:=Jh h19
   refine Jic h24 (by kernel_rfl) ?_
   obtain ⟨b22,h25,h19⟩:=Jh h19
   refine zR 2 ?_
   refine Kt 5 31 (.bool b22) ?_ ?_
   ·rcases Jk h25 with ⟨hb,h25⟩|⟨hb,h25⟩
    ·refine zS 26 hb (zR 2 ?_)
     obtain ⟨x23,h26,h25⟩:=Jh h25
     refine Jic h26 (by kernel_rfl) ?_
     cases h25
     exact zF
    refine zS 26 hb ?_
    cases h25
    exact zF
   obtain ⟨b24,h27,h19⟩:=Jh h19
   refine zR 1 ?_
   refine Kt 5 37 (.bool b24) ?_ ?_
   ·rcases Jk h27 with ⟨hb,h27⟩|⟨hb,h27⟩
    ·refine zS 32 hb ?_
     cases h27
     exact zF
    refine zS 32 hb (zR 2 ?_)
    obtain ⟨x25,h28,h27⟩:=Jh h27
    refine Jic h28 (by kernel_rfl) ?_
    cases h27
    exact zF
   refine zE (Jc (Ja (Jf (zR 3 ?_))))
   refine Qb 7 47 ((!b19)&&((!b24)||(decide (x9=0)))) (fun x hx=>?_) ?_
   ·rcases Bq hx with ⟨hb,hx⟩|⟨hb,hx⟩
    ·refine zS 40 hb (zR 3 ?_)
     refine Jh5 3 46 ((!b24)||(decide (x9=0))) (fun x hx=>?_) ?_
     ·rcases Ck hx with ⟨hb,hx⟩|⟨hb,hx⟩
      ·refine zS 43 hb ?_
       subst hx
       exact zF
      refine zS 43 hb ?_
      subst hx
      exact zF
     subst hx
     exact zF
    refine zS 40 hb ?_
    subst hx
    exact zF
   refine zN (Jc ?_)
   rcases Jk h19 with ⟨hb,h19⟩|⟨hb,h19⟩
   ·refine zT hb (Ja (Jf (zE (Jc (Jp (Jm (Ji ?_)))))))
    cases h19
    refine Kb fun he=>?_
    subst he
    have h29:=Ku h
    refine Jm (Ji ?_)
    cases h29
    exact zQ
   refine zU hb (Jj (Kd (Jc (Jf (zE ?_)))))
   cases h19
   exact zB
  refine zU hb (Kc (Jv ?_))
  cases h19
  exact zX
 rintro _ s' rfl hs
 have h:=Kg h
 refine Jt (Jc (Ke hs (Ja (Jf (zR 4 ?_)))))
 refine Qb 4 55 ((decide (1≤((a0.size:Nat):Int)))&&(decide (((a0.size:Nat):Int)≤12))) (fun x hx=>?_) ?_
 ·rcases Bq hx with ⟨hb,hx⟩|⟨hb,hx⟩
  ·refine zS 51 hb ?_
   subst hx
   exact zF
  refine zS 51 hb ?_
  subst hx
  exact zF
 refine zE (Jc (Jp ?_))
 cases h
 exact zQ
/-! signallingref07.texts -/
noncomputable def Tr (a0:(List ByteArray)) (x8:Int):Int→Option (Int⊕(Unit⊕(Int⊕(Unit⊕Bool)))):=fun x18 =>
 bif decide (x18<x8) then (
  (ixO a0 x8).bind fun x21 =>
  (ixO a0 x18).bind fun x22 =>
  bif decide (x21=x22) then (
   some (.inr (.inr (.inr (.inr true))))
  ) else (
   some (.inl (w64 (x18+1)))
  )
 ) else (
  some (.inr (.inl ()))
 )
noncomputable def Tu (a0:(List ByteArray)):Int→Option (Int⊕(Unit⊕Bool)):=fun x8 =>
 bif decide (x8<((a0.length:Nat):Int)) then (
  onInl (α:=Unit) (β:=(Int⊕(Unit⊕Bool))) (Kl (Tr a0 x8) 0) fun _ =>
  some (.inl (w64 (x8+1)))
 ) else (
  some (.inr (.inl ()))
 )
noncomputable def Cn (a0:(List ByteArray)):Option Bool :=
 onInl (α:=Unit) (β:=Bool) (Kl (Tu a0) 0) fun _ =>
 some false
theorem Lf (a0:(List ByteArray)) (r:Bool) (h:Cn a0=some r):Km Go.Proofs.Tryz.prog GlS 79 [Enc.pv a0] (Enc.pv r):=by
 unfold Cn at h
 refine Jr Go.Proofs.Tryz.func79 (by rfl) rfl Go.Proofs.Tryz.ntmps79 (by rfl) rfl ?_
 refine Ja (Jf (zE (Jc (Ja (Ja (Jf (zR 1 ?_)))))))
 refine Kf (L:=(a0:(List ByteArray))) (by kernel_rfl) ?_
 refine zE (Jc (Jn ?_))
 obtain ⟨o30,h30,h⟩:=Kq h
 refine Ki 25 0 (fun x8=>⟨[(0,Jo .frozen (a0:(List ByteArray))),(6,.int .i64 ((a0.length:Nat):Int)),(7,.int .i64 x8)],[],[],[]⟩) (fun (_:Unit)=>⟨[],[],[],[]⟩) h30 (by kernel_rfl) (fun _=>by kernel_rfl) ?_ ?_
 ·rintro x8 oh29 h29
  unfold Tu at h29
  refine Ja (Jf (zE (Jc (Ja ?_))))
  rcases Jk h29 with ⟨hb,h29⟩|⟨hb,h29⟩
  ·refine zT hb (Jj (Jc (Ja (Jn (Ja (Jf (zE (Jc (Ja (Jf (zE (Jc (Jn ?_)))))))))))))
   obtain ⟨o40,h40,h29⟩:=Kq h29
   refine Ki 25 2 (fun x18=>⟨[(0,Jo .frozen (a0:(List ByteArray))),(3,.int .i64 x8),(6,.int .i64 ((a0.length:Nat):Int)),(7,.int .i64 x8),(10,.int .i64 x8),(11,.int .i64 x18)],[],[],[]⟩) (fun (_:Unit)=>⟨[(0,Jo .frozen (a0:(List ByteArray))),(6,.int .i64 ((a0.length:Nat):Int)),(7,.int .i64 x8)],[],[],[]⟩) h40 (by kernel_rfl) (fun _=>by kernel_rfl) ?_ ?_
   ·rintro x18 oh39 h39
    unfold Tr at h39
    refine Ja (Jf (zE (Jc (Ja ?_))))
    rcases Jk h39 with ⟨hb,h39⟩|⟨hb,h39⟩
    ·refine zT hb (Jj (Jc (Ja (Jn (Ja (Jf (zE (Jc (Ja (Kv (by kernel_rfl) (by kernel_rfl) (zR 2 ?_)))))))))))
     obtain ⟨x21,h41,h39⟩:=Jh h39
     refine zI h41 (zR 3 ?_)
     obtain ⟨x22,h42,h39⟩:=Jh h39
     refine zI h42 (zE (Jc ?_))
     rcases Jk h39 with ⟨hb,h39⟩|⟨hb,h39⟩
     ·refine zT hb (Ja (Jf (zE (Jc (Jp (Jm (Ji ?_)))))))
      cases h39
      refine Kb fun he=>?_
      subst he
      have h43:=Ku h29
      refine Jm (Jm (Ji ?_))
      cases h43
      refine Kb fun he=>?_
      subst he
      have h44:=Ku h
      refine Jm (Ji ?_)
      cases h44
      exact zQ
     refine zU hb (Jj (Kd (Jc (Jf (zE ?_)))))
     cases h39
     exact zB
    refine zU hb (Kc (Jv ?_))
    cases h39
    exact zX
   rintro _ s' rfl hs
   have h29:=Kg h29
   refine Jt (Kd (Jc (Ke hs (Jf (zE ?_)))))
   cases h29
   exact zB
  refine zU hb (Kc (Jv ?_))
  cases h29
  exact zX
 rintro _ s' rfl hs
 have h:=Kg h
 refine Jt (Jc (Ke hs (Ja (Jf (zE (Jc (Jp ?_)))))))
 cases h
 exact zQ
/-! signallingref07.named -/
noncomputable def Gc (x9:(List ByteArray)):Int→Option (Int⊕(Unit⊕Int)):=fun x12 =>
 bif decide (x12<((x9.length:Nat):Int)) then (
  (ixO x9 x12).bind fun x15 =>
  (Ho x15).bind fun r16 =>
  bif (!r16) then (
   some (.inr (.inr 3))
  ) else (
   some (.inl (w64 (x12+1)))
  )
 ) else (
  some (.inr (.inl ()))
 )
noncomputable def Fo (a0:Jd):Option Int :=
 ((bif decide (((a0.Elements.length:Nat):Int)<1) then some true else (
  some (decide (32<((a0.Elements.length:Nat):Int)))
 )):Option Bool).bind fun b1 =>
 ((bif b1 then some true else (
  some (decide (((a0.Sections.length:Nat):Int)<1))
 )):Option Bool).bind fun b2 =>
 ((bif b2 then some true else (
  some (decide (24<((a0.Sections.length:Nat):Int)))
 )):Option Bool).bind fun b3 =>
 ((bif b3 then some true else (
  some (decide (20<((a0.Signals.length:Nat):Int)))
 )):Option Bool).bind fun b4 =>
 ((bif b4 then some true else (
  some (decide (24<((a0.Balises.length:Nat):Int)))
 )):Option Bool).bind fun b5 =>
 bif b5 then (
  some 2
 ) else (
  (Fu a0).bind fun r6 =>
  (Vv [a0.Name] r6.x0).bind fun x7 =>
  (Vv x7 r6.x1).bind fun x8 =>
  (Vv x8 r6.x2).bind fun x9 =>
  onInl (α:=Unit) (β:=Int) (Kl (Gc x9) 0) fun _ =>
  (Cn r6.x0).bind fun r17 =>
  ((bif r17 then some true else (
   (Cn r6.x1).bind fun r19 =>
   some r19
  )):Option Bool).bind fun b18 =>
  ((bif b18 then some true else (
   (Cn r6.x2).bind fun r21 =>
   some r21
  )):Option Bool).bind fun b20 =>
  bif b20 then (
   some 8
  ) else (
   some 0
  )
 )
theorem Jfi (a0:Jd) (r:Int) (h:Fo a0=some r):Km Go.Proofs.Tryz.prog GlS 40 [Enc.pv a0] (Enc.pv r):=by
 unfold Fo at h
 refine Jr Go.Proofs.Tryz.func40 (by rfl) rfl Go.Proofs.Tryz.ntmps40 (by rfl) rfl ?_
 refine Ja (Jf (zE (Jc (Ja (Ja (Jf (zR 2 ?_)))))))
 refine Kf (L:=(a0.Elements:(List Jq))) (by kernel_rfl) ?_
 obtain ⟨b1,h1,h⟩:=Jh h
 refine zR 2 ?_
 refine Kt 5 15 (.bool b1) ?_ ?_
 ·rcases Jk h1 with ⟨hb,h1⟩|⟨hb,h1⟩
  ·refine zS 10 hb ?_
   cases h1
   exact zF
  refine zS 10 hb (zR 2 ?_)
  refine Kf (L:=(a0.Elements:(List Jq))) (by kernel_rfl) ?_
  cases h1
  exact zF
 obtain ⟨b2,h2,h⟩:=Jh h
 refine zR 1 ?_
 refine Kt 5 21 (.bool b2) ?_ ?_
 ·rcases Jk h2 with ⟨hb,h2⟩|⟨hb,h2⟩
  ·refine zS 16 hb ?_
   cases h2
   exact zF
  refine zS 16 hb (zR 2 ?_)
  refine Kf (L:=(a0.Sections:(List ByteArray))) (by kernel_rfl) ?_
  cases h2
  exact zF
 obtain ⟨b3,h3,h⟩:=Jh h
 refine zR 1 ?_
 refine Kt 5 27 (.bool b3) ?_ ?_
 ·rcases Jk h3 with ⟨hb,h3⟩|⟨hb,h3⟩
  ·refine zS 22 hb ?_
   cases h3
   exact zF
  refine zS 22 hb (zR 2 ?_)
  refine Kf (L:=(a0.Sections:(List ByteArray))) (by kernel_rfl) ?_
  cases h3
  exact zF
 obtain ⟨b4,h4,h⟩:=Jh h
 refine zR 1 ?_
 refine Kt 5 33 (.bool b4) ?_ ?_
 ·rcases Jk h4 with ⟨hb,h4⟩|⟨hb,h4⟩
  ·refine zS 28 hb ?_
   cases h4
   exact zF
  refine zS 28 hb (zR 2 ?_)
  refine Kf (L:=(a0.Signals:(List Js))) (by kernel_rfl) ?_
  cases h4
  exact zF
 obtain ⟨b5,h5,h⟩:=Jh h
 refine zR 1 ?_
 refine Kt 5 39 (.bool b5) ?_ ?_
 ·rcases Jk h5 with ⟨hb,h5⟩|⟨hb,h5⟩
  ·refine zS 34 hb ?_
   cases h5
   exact zF
  refine zS 34 hb (zR 2 ?_)
  refine Kf (L:=(a0.Balises:(List Kh))) (by kernel_rfl) ?_
  cases h5
  exact zF
 refine zN (Jc ?_)
 rcases Jk h with ⟨hb,h⟩|⟨hb,h⟩
 ·refine zT hb (Ja (Jf (zE (Jc (Jp (Ji ?_))))))
  cases h
  exact zQ
 refine zU hb (Jj (Jc (Ja (Jf (zR 1 ?_)))))
 obtain ⟨r6,h6,h⟩:=Jh h
 refine Ju (Jeo _ r6 h6) (by kernel_rfl) (by kernel_rfl) (zE (Jc (Ja (Ja (Kv (by kernel_rfl) (by kernel_rfl) (zR 5 ?_))))))
 obtain ⟨x7,h7,h⟩:=Jh h
 refine Jpa (tk:=47) h7 (by kernel_rfl) ?_
 refine zR 2 ?_
 obtain ⟨x8,h8,h⟩:=Jh h
 refine Zz (tk:=47) h8 (by kernel_rfl) (by kernel_rfl) ?_
 refine zR 2 ?_
 obtain ⟨x9,h9,h⟩:=Jh h
 refine Zz (tk:=47) h9 (by kernel_rfl) (by kernel_rfl) ?_
 refine Kf (L:=(x9:(List ByteArray))) (by kernel_rfl) ?_
 refine zE (Jc (Jn ?_))
 obtain ⟨o17,h17,h⟩:=Kq h
 refine Ki 76 0 (fun x12=>⟨[(3,.ref 3 0),(53,Jo (.own 47) (x9:(List ByteArray))),(54,.int .i64 ((x9.length:Nat):Int)),(55,.int .i64 x12)],[(3,.cells (cellsOf r6))],[(47,(((x9).map cellsOf).length,1))],[]⟩) (fun (_:Unit)=>⟨[(3,.ref 3 0)],[(3,.cells (cellsOf r6))],[],[]⟩) h17 (by kernel_rfl) (fun _=>by kernel_rfl) ?_ ?_
 ·rintro x12 oh16 h16
  unfold Gc at h16
  refine Ja (Jf (zE (Jc (Ja ?_))))
  rcases Jk h16 with ⟨hb,h16⟩|⟨hb,h16⟩
  ·refine zT hb (Jj (Jc (Ja (Jn (Ja (Jf ?_))))))
   obtain ⟨x15,h18,h16⟩:=Jh h16
   refine zI h18 (zE (Jc (Ja (Jf (zR 1 ?_)))))
   obtain ⟨r16,h19,h16⟩:=Jh h16
   refine Ju (Jgj _ r16 h19) (by kernel_rfl) (by kernel_rfl) (zE (Jc ?_))
   rcases Jk h16 with ⟨hb,h16⟩|⟨hb,h16⟩
   ·refine zT hb (Ja (Jf (zE (Jc (Jp (Jm (Ji ?_)))))))
    cases h16
    refine Kb fun he=>?_
    subst he
    have h20:=Ku h
    refine Jm (Ji ?_)
    cases h20
    exact zQ
   refine zU hb (Jj (Kd (Jc (Jf (zE ?_)))))
   cases h16
   exact zB
  refine zU hb (Kc (Jv ?_))
  cases h16
  exact zX
 rintro _ s' rfl hs
 have h:=Kg h
 refine Jt (Jc (Ke hs (Ja (Ja (Jf (zR 2 ?_))))))
 obtain ⟨r17,h21,h⟩:=Jh h
 refine Ju (Lf _ r17 h21) (by kernel_rfl) (by kernel_rfl) ?_
 obtain ⟨b18,h22,h⟩:=Jh h
 refine zR 1 ?_
 refine Kt 4 70 (.bool b18) ?_ ?_
 ·rcases Jk h22 with ⟨hb,h22⟩|⟨hb,h22⟩
  ·refine zS 66 hb ?_
   cases h22
   exact zF
  refine zS 66 hb (zR 2 ?_)
  obtain ⟨r19,h23,h22⟩:=Jh h22
  refine Ju (Lf _ r19 h23) (by kernel_rfl) (by kernel_rfl) ?_
  cases h22
  exact zF
 obtain ⟨b20,h24,h⟩:=Jh h
 refine zR 1 ?_
 refine Kt 4 75 (.bool b20) ?_ ?_
 ·rcases Jk h24 with ⟨hb,h24⟩|⟨hb,h24⟩
  ·refine zS 71 hb ?_
   cases h24
   exact zF
  refine zS 71 hb (zR 2 ?_)
  obtain ⟨r21,h25,h24⟩:=Jh h24
  refine Ju (Lf _ r21 h25) (by kernel_rfl) (by kernel_rfl) ?_
  cases h24
  exact zF
 refine zN (Jc ?_)
 rcases Jk h with ⟨hb,h⟩|⟨hb,h⟩
 ·refine zT hb (Ja (Jf (zE (Jc (Jp (Ji ?_))))))
  cases h
  exact zQ
 refine zU hb (Jj (Jc (Ja (Jf (zE (Jc (Jp ?_)))))))
 cases h
 exact zQ
/-! signallingref07.right -/
noncomputable def Fm (a0:Jd) (a1:Jq):Option Bool :=
 ((bif (((((((((decide (a1.Kind<1))||(decide (3<a1.Kind)))||(decide (a1.Length<500)))||(decide (1000000<a1.Length)))||(decide (a1.Grade<(-50))))||(decide (50<a1.Grade)))||(decide (a1.Speed<100)))||(decide (10000<a1.Speed)))||(decide (a1.Section<0))) then some true else (
  some (decide (((a0.Sections.length:Nat):Int)≤a1.Section))
 )):Option Bool).bind fun b1 =>
 bif b1 then (
  some false
 ) else (
  bif decide (a1.Kind=2) then (
   some ((decide (100≤a1.Slow))&&(decide (a1.Slow≤a1.Speed)))
  ) else (
   some (decide (a1.Slow=0))
  )
 )
theorem Jev (a0:Jd) (a1:Jq) (r:Bool) (h:Fm a0 a1=some r):Km Go.Proofs.Tryz.prog GlS 80 [Enc.pv a0,Enc.pv a1] (Enc.pv r):=by
 unfold Fm at h
 refine Jr Go.Proofs.Tryz.func80 (by rfl) rfl Go.Proofs.Tryz.ntmps80 (by rfl) rfl ?_
 refine Ja (Jf (zE (Jc (Ja (Ja (Jf (zR 4 ?_)))))))
 refine Qb 4 12 ((decide (a1.Kind<1))||(decide (3<a1.Kind))) (fun x hx=>?_) ?_
 ·rcases Ck hx with ⟨hb,hx⟩|⟨hb,hx⟩
  ·refine zS 8 hb ?_
   subst hx
   exact zF
  refine zS 8 hb ?_
  subst hx
  exact zF
 refine zR 1 ?_
 refine Qb 4 17 (((decide (a1.Kind<1))||(decide (3<a1.Kind)))||(decide (a1.Length<500))) (fun x hx=>?_) ?_
 ·rcases Ck hx with ⟨hb,hx⟩|⟨hb,hx⟩
  ·refine zS 13 hb ?_
   subst hx
   exact zF
  refine zS 13 hb ?_
  subst hx
  exact zF
 refine zR 1 ?_
 refine Qb 4 22 ((((decide (a1.Kind<1))||(decide (3<a1.Kind)))||(decide (a1.Length<500)))||(decide (1000000<a1.Length))) (fun x hx=>?_) ?_
 ·rcases Ck hx with ⟨hb,hx⟩|⟨hb,hx⟩
  ·refine zS 18 hb ?_
   subst hx
   exact zF
  refine zS 18 hb ?_
  subst hx
  exact zF
 refine zR 1 ?_
 refine Qb 4 27 (((((decide (a1.Kind<1))||(decide (3<a1.Kind)))||(decide (a1.Length<500)))||(decide (1000000<a1.Length)))||(decide (a1.Grade<(-50)))) (fun x hx=>?_) ?_
 ·rcases Ck hx with ⟨hb,hx⟩|⟨hb,hx⟩
  ·refine zS 23 hb ?_
   subst hx
   exact zF
  refine zS 23 hb ?_
  subst hx
  exact zF
 refine zR 1 ?_
 refine Qb 4 32 ((((((decide (a1.Kind<1))||(decide (3<a1.Kind)))||(decide (a1.Length<500)))||(decide (1000000<a1.Length)))||(decide (a1.Grade<(-50))))||(decide (50<a1.Grade))) (fun x hx=>?_) ?_
 ·rcases Ck hx with ⟨hb,hx⟩|⟨hb,hx⟩
  ·refine zS 28 hb ?_
   subst hx
   exact zF
  refine zS 28 hb ?_
  subst hx
  exact zF
 refine zR 1 ?_
 refine Qb 4 37 (((((((decide (a1.Kind<1))||(decide (3<a1.Kind)))||(decide (a1.Length<500)))||(decide (1000000<a1.Length)))||(decide (a1.Grade<(-50))))||(decide (50<a1.Grade)))||(decide (a1.Speed<100))) (fun x hx=>?_) ?_
 ·rcases Ck hx with ⟨hb,hx⟩|⟨hb,hx⟩
  ·refine zS 33 hb ?_
   subst hx
   exact zF
  refine zS 33 hb ?_
  subst hx
  exact zF
 refine zR 1 ?_
 refine Qb 4 42 ((((((((decide (a1.Kind<1))||(decide (3<a1.Kind)))||(decide (a1.Length<500)))||(decide (1000000<a1.Length)))||(decide (a1.Grade<(-50))))||(decide (50<a1.Grade)))||(decide (a1.Speed<100)))||(decide (10000<a1.Speed))) (fun x hx=>?_) ?_
 ·rcases Ck hx with ⟨hb,hx⟩|⟨hb,hx⟩
  ·refine zS 38 hb ?_
   subst hx
   exact zF
  refine zS 38 hb ?_
  subst hx
  exact zF
 refine zR 1 ?_
 refine Qb 4 47 (((((((((decide (a1.Kind<1))||(decide (3<a1.Kind)))||(decide (a1.Length<500)))||(decide (1000000<a1.Length)))||(decide (a1.Grade<(-50))))||(decide (50<a1.Grade)))||(decide (a1.Speed<100)))||(decide (10000<a1.Speed)))||(decide (a1.Section<0))) (fun x hx=>?_) ?_
 ·rcases Ck hx with ⟨hb,hx⟩|⟨hb,hx⟩
  ·refine zS 43 hb ?_
   subst hx
   exact zF
  refine zS 43 hb ?_
  subst hx
  exact zF
 obtain ⟨b1,h1,h⟩:=Jh h
 refine zR 1 ?_
 refine Kt 7 55 (.bool b1) ?_ ?_
 ·rcases Jk h1 with ⟨hb,h1⟩|⟨hb,h1⟩
  ·refine zS 48 hb ?_
   cases h1
   exact zF
  refine zS 48 hb (zR 4 ?_)
  refine Kf (L:=(a0.Sections:(List ByteArray))) (by kernel_rfl) ?_
  cases h1
  exact zF
 refine zN (Jc ?_)
 rcases Jk h with ⟨hb,h⟩|⟨hb,h⟩
 ·refine zT hb (Ja (Jf (zE (Jc (Jp (Ji ?_))))))
  cases h
  exact zQ
 refine zU hb (Jj (Jc (Ja (Ja (Jf (zE (Jc ?_)))))))
 rcases Jk h with ⟨hb,h⟩|⟨hb,h⟩
 ·refine zT hb (Ja (Jf (zR 4 ?_)))
  refine Qb 6 68 ((decide (100≤a1.Slow))&&(decide (a1.Slow≤a1.Speed))) (fun x hx=>?_) ?_
  ·rcases Bq hx with ⟨hb,hx⟩|⟨hb,hx⟩
   ·refine zS 62 hb ?_
    subst hx
    exact zF
   refine zS 62 hb ?_
   subst hx
   exact zF
  refine zE (Jc (Jp (Ji ?_)))
  cases h
  exact zQ
 refine zU hb (Jj (Jc (Ja (Jf (zE (Jc (Jp ?_)))))))
 cases h
 exact zQ
/-! signallingref07.Members -/
noncomputable def Cy (a0:Jd) (a1:Int):(Int×(List Int))→Option ((Int×(List Int))⊕((List Int)⊕(List Int))):=fun (x16,x17) =>
 bif decide (x16<((a0.Elements.length:Nat):Int)) then (
  onInl (α:=(List Int)) (β:=((Int×(List Int))⊕((List Int)⊕(List Int)))) (
   (ixO a0.Elements x16).bind fun x30 =>
   ((bif ((decide (x30.Section=a1))&&(decide (0≤a1))) then (
    some (decide (a1<((a0.Sections.length:Nat):Int)))
   ) else some false):Option Bool).bind fun b31 =>
   bif b31 then (
    (Vv x17 [x16]).bind fun x32 =>
    some (.inl x32)
   ) else (
    some (.inl x17)
   )
  ) fun x29 =>
  some (.inl (w64 (x16+1),x29))
 ) else (
  some (.inr (.inl x17))
 )
noncomputable def Zj (a0:Jd) (a1:Int):Option (List Int) :=
 onInl (α:=(List Int)) (β:=(List Int)) (Kl (Cy a0 a1) (0,([]:(List Int)))) fun x25 =>
 some x25
theorem Jcg (a0:Jd) (a1:Int) (r:(List Int)) (h:Zj a0 a1=some r):Km Go.Proofs.Tryz.prog GlS 81 [Enc.pv a0,Enc.pv a1] (Jo (.own 100005) r):=by
 unfold Zj at h
 refine Jr Go.Proofs.Tryz.func81 (by rfl) rfl Go.Proofs.Tryz.ntmps81 (by rfl) rfl ?_
 refine Ja (Jf (zE (Jc (Ja (Jf (zE (Jc (Ja (Ja (Jf (zR 2 ?_)))))))))))
 refine Kf (L:=(a0.Elements:(List Jq))) (by kernel_rfl) ?_
 refine zE (Jc (Jn (Df 5 100005 1 8 (by kernel_rfl) (by kernel_rfl) ?_)))
 obtain ⟨o23,h23,h⟩:=Kq h
 refine Ki 37 0 (fun (x16,x17)=>⟨[(1,.int .i64 a1),(2,.ref 2 0),(5,Jo (.own 100005) (x17:(List Int))),(9,Jo .frozen (a0.Elements:(List Jq))),(10,.int .i64 ((a0.Elements.length:Nat):Int)),(11,.int .i64 x16)],[(2,.cells (cellsOf a0))],[(100005,(((x17).map cellsOf).length,1))],[]⟩) (fun x25=>⟨[(5,Jo (.own 100005) (x25:(List Int)))],[],[(100005,(((x25).map cellsOf).length,1))],[]⟩) h23 (by kernel_rfl) (fun _=>by kernel_rfl) ?_ ?_
 ·rintro ⟨x16,x17⟩ oh22 h22
  unfold Cy at h22
  refine Ja (Jf (zE (Jc (Ja ?_))))
  rcases Jk h22 with ⟨hb,h22⟩|⟨hb,h22⟩
  ·refine zT hb (Jj (Jc ?_))
   obtain ⟨o27,h27,h22⟩:=Kq h22
   refine Vx (o:=o27) 37 (fun x29=>⟨[(1,.int .i64 a1),(2,.ref 2 0),(5,Jo (.own 100005) (x29:(List Int))),(9,Jo .frozen (a0.Elements:(List Jq))),(10,.int .i64 ((a0.Elements.length:Nat):Int)),(11,.int .i64 x16)],[(2,.cells (cellsOf a0))],[(100005,(((x29).map cellsOf).length,1))],[]⟩) ?_ ?_
   ·refine Jn (Ja (Jf (zR 1 ?_)))
    obtain ⟨x30,h28,h27⟩:=Jh h27
    refine zI h28 (zE (Jc (Ja (Jf (zR 5 ?_)))))
    refine Qb 3 23 ((decide (x30.Section=a1))&&(decide (0≤a1))) (fun x hx=>?_) ?_
    ·rcases Bq hx with ⟨hb,hx⟩|⟨hb,hx⟩
     ·refine zS 20 hb ?_
      subst hx
      exact zF
     refine zS 20 hb ?_
     subst hx
     exact zF
    obtain ⟨b31,h29,h27⟩:=Jh h27
    refine zR 1 ?_
    refine Kt 6 30 (.bool b31) ?_ ?_
    ·rcases Jk h29 with ⟨hb,h29⟩|⟨hb,h29⟩
     ·refine zS 24 hb (zR 3 ?_)
      refine Kf (L:=(a0.Sections:(List ByteArray))) (by kernel_rfl) ?_
      cases h29
      exact zF
     refine zS 24 hb ?_
     cases h29
     exact zF
    refine zN (Jc ?_)
    rcases Jk h27 with ⟨hb,h27⟩|⟨hb,h27⟩
    ·refine zT hb (Jf (zR 3 ?_))
     obtain ⟨x32,h30,h27⟩:=Jh h27
     refine Zz (tk:=100005) h30 (by kernel_rfl) (by kernel_rfl) ?_
     refine zE (Kd ?_)
     cases h27
     exact zJ
    refine zU hb (Jj (Kd ?_))
    cases h27
    exact zJ
   rintro x29 rfl
   have h22:=Kg h22
   refine Jf (zE ?_)
   cases h22
   exact zB
  refine zU hb (Kc (Jv ?_))
  cases h22
  exact zX
 rintro x25 s' rfl hs
 have h:=Kg h
 refine Jt (Jc (Ke hs (Ja (Jf (zE (Jc (Jp ?_)))))))
 cases h
 exact zQ
/-! signallingref06.Sides -/
noncomputable def Fq (a0:Int):Option Int :=
 bif decide (a0=1) then (
  some 2
 ) else (
  bif decide (a0=2) then (
   some 3
  ) else (
   bif decide (a0=3) then (
    some 4
   ) else (
    some 0
   )
  )
 )
theorem Jfe (a0:Int) (r:Int) (h:Fq a0=some r):Km Go.Proofs.Tryz.prog GlS 103 [Enc.pv a0] (Enc.pv r):=by
 unfold Fq at h
 refine Jr Go.Proofs.Tryz.func103 (by rfl) rfl Go.Proofs.Tryz.ntmps103 (by rfl) rfl ?_
 refine Ja (Jf (zE (Jc (Ja (Ja (Jf (zE (Jc (Jn (Ja (Jf (zE (Jc ?_)))))))))))))
 rcases Jk h with ⟨hb,h⟩|⟨hb,h⟩
 ·refine zT hb (Ja (Jf (zE (Jc (Jp (Jm (Ji ?_)))))))
  cases h
  exact zQ
 refine zU hb (Ja (Jf (zE (Jc ?_))))
 rcases Jk h with ⟨hb,h⟩|⟨hb,h⟩
 ·refine zT hb (Ja (Jf (zE (Jc (Jp (Jm (Ji ?_)))))))
  cases h
  exact zQ
 refine zU hb (Ja (Jf (zE (Jc ?_))))
 rcases Jk h with ⟨hb,h⟩|⟨hb,h⟩
 ·refine zT hb (Ja (Jf (zE (Jc (Jp (Jm (Ji ?_)))))))
  cases h
  exact zQ
 refine zU hb (Jj (Kd (Jc (Ja (Jf (zE (Jc (Jp ?_))))))))
 cases h
 exact zQ
/-! signallingref07.exists -/
noncomputable def Yo (a0:Jd) (a1:Jg):Option Bool :=
 ((bif decide (0≤a1.El) then (
  some (decide (a1.El<((a0.Elements.length:Nat):Int)))
 ) else some false):Option Bool).bind fun b1 =>
 ((bif (b1&&(decide (0≤a1.Side))) then (
  (ixO a0.Elements a1.El).bind fun x3 =>
  (Fq x3.Kind).bind fun r4 =>
  some (decide (a1.Side<r4))
 ) else some false):Option Bool).bind fun b2 =>
 some b2
theorem Ig (a0:Jd) (a1:Jg) (r:Bool) (h:Yo a0 a1=some r):Km Go.Proofs.Tryz.prog GlS 82 [Enc.pv a0,Enc.pv a1] (Enc.pv r):=by
 unfold Yo at h
 refine Jr Go.Proofs.Tryz.func82 (by rfl) rfl Go.Proofs.Tryz.ntmps82 (by rfl) rfl ?_
 refine Ja (Jf (zE (Jc (Ja (Kv (by kernel_rfl) (by kernel_rfl) ?_)))))
 obtain ⟨b1,h1,h⟩:=Jh h
 refine zR 4 ?_
 refine Kt 7 15 (.bool b1) ?_ ?_
 ·rcases Jk h1 with ⟨hb,h1⟩|⟨hb,h1⟩
  ·refine zS 8 hb (zR 4 ?_)
   refine Kf (L:=(a0.Elements:(List Jq))) (by kernel_rfl) ?_
   cases h1
   exact zF
  refine zS 8 hb ?_
  cases h1
  exact zF
 refine zR 1 ?_
 refine Qb 4 20 (b1&&(decide (0≤a1.Side))) (fun x hx=>?_) ?_
 ·rcases Bq hx with ⟨hb,hx⟩|⟨hb,hx⟩
  ·refine zS 16 hb ?_
   subst hx
   exact zF
  refine zS 16 hb ?_
  subst hx
  exact zF
 obtain ⟨b2,h2,h⟩:=Jh h
 refine zR 1 ?_
 refine Kt 12 33 (.bool b2) ?_ ?_
 ·rcases Jk h2 with ⟨hb,h2⟩|⟨hb,h2⟩
  ·refine zS 21 hb (zR 6 ?_)
   obtain ⟨x3,h3,h2⟩:=Jh h2
   refine zI h3 (zR 2 ?_)
   obtain ⟨r4,h4,h2⟩:=Jh h2
   refine Ju (Jfe _ r4 h4) (by kernel_rfl) (by kernel_rfl) ?_
   cases h2
   exact zF
  refine zS 21 hb ?_
  cases h2
  exact zF
 refine zE (Jc (Jp ?_))
 cases h
 exact zQ
/-! signallingref07.ends -/
noncomputable def Jae (a0:(List Jg)) (x8:Int):Int→Option (Int⊕(Unit⊕(Int⊕(Unit⊕Bool)))):=fun x18 =>
 bif decide (x18<x8) then (
  (ixO a0 x8).bind fun x21 =>
  (ixO a0 x18).bind fun x22 =>
  bif Ka x21 x22 then (
   some (.inr (.inr (.inr (.inr true))))
  ) else (
   some (.inl (w64 (x18+1)))
  )
 ) else (
  some (.inr (.inl ()))
 )
noncomputable def Ja0 (a0:(List Jg)):Int→Option (Int⊕(Unit⊕Bool)):=fun x8 =>
 bif decide (x8<((a0.length:Nat):Int)) then (
  onInl (α:=Unit) (β:=(Int⊕(Unit⊕Bool))) (Kl (Jae a0 x8) 0) fun _ =>
  some (.inl (w64 (x8+1)))
 ) else (
  some (.inr (.inl ()))
 )
noncomputable def Iq (a0:(List Jg)):Option Bool :=
 onInl (α:=Unit) (β:=Bool) (Kl (Ja0 a0) 0) fun _ =>
 some false
theorem Ts (a0:(List Jg)) (r:Bool) (h:Iq a0=some r):Km Go.Proofs.Tryz.prog GlS 83 [Enc.pv a0] (Enc.pv r):=by
 unfold Iq at h
 refine Jr Go.Proofs.Tryz.func83 (by rfl) rfl Go.Proofs.Tryz.ntmps83 (by rfl) rfl ?_
 refine Ja (Jf (zE (Jc (Ja (Ja (Jf (zR 1 ?_)))))))
 refine Kf (L:=(a0:(List Jg))) (by kernel_rfl) ?_
 refine zE (Jc (Jn ?_))
 obtain ⟨o30,h30,h⟩:=Kq h
 refine Ki 25 0 (fun x8=>⟨[(0,Jo .frozen (a0:(List Jg))),(6,.int .i64 ((a0.length:Nat):Int)),(7,.int .i64 x8)],[],[],[]⟩) (fun (_:Unit)=>⟨[],[],[],[]⟩) h30 (by kernel_rfl) (fun _=>by kernel_rfl) ?_ ?_
 ·rintro x8 oh29 h29
  unfold Ja0 at h29
  refine Ja (Jf (zE (Jc (Ja ?_))))
  rcases Jk h29 with ⟨hb,h29⟩|⟨hb,h29⟩
  ·refine zT hb (Jj (Jc (Ja (Jn (Ja (Jf (zE (Jc (Ja (Jf (zE (Jc (Jn ?_)))))))))))))
   obtain ⟨o40,h40,h29⟩:=Kq h29
   refine Ki 25 2 (fun x18=>⟨[(0,Jo .frozen (a0:(List Jg))),(3,.int .i64 x8),(6,.int .i64 ((a0.length:Nat):Int)),(7,.int .i64 x8),(10,.int .i64 x8),(11,.int .i64 x18)],[],[],[]⟩) (fun (_:Unit)=>⟨[(0,Jo .frozen (a0:(List Jg))),(6,.int .i64 ((a0.length:Nat):Int)),(7,.int .i64 x8)],[],[],[]⟩) h40 (by kernel_rfl) (fun _=>by kernel_rfl) ?_ ?_
   ·rintro x18 oh39 h39
    unfold Jae at h39
    refine Ja (Jf (zE (Jc (Ja ?_))))
    rcases Jk h39 with ⟨hb,h39⟩|⟨hb,h39⟩
    ·refine zT hb (Jj (Jc (Ja (Jn (Ja (Jf (zE (Jc (Ja (Kv (by kernel_rfl) (by kernel_rfl) (zR 2 ?_)))))))))))
     obtain ⟨x21,h41,h39⟩:=Jh h39
     refine zI h41 (zR 3 ?_)
     obtain ⟨x22,h42,h39⟩:=Jh h39
     refine zI h42 (zE (Jc ?_))
     rcases Jk h39 with ⟨hb,h39⟩|⟨hb,h39⟩
     ·refine zT hb (Ja (Jf (zE (Jc (Jp (Jm (Ji ?_)))))))
      cases h39
      refine Kb fun he=>?_
      subst he
      have h43:=Ku h29
      refine Jm (Jm (Ji ?_))
      cases h43
      refine Kb fun he=>?_
      subst he
      have h44:=Ku h
      refine Jm (Ji ?_)
      cases h44
      exact zQ
     refine zU hb (Jj (Kd (Jc (Jf (zE ?_)))))
     cases h39
     exact zB
    refine zU hb (Kc (Jv ?_))
    cases h39
    exact zX
   rintro _ s' rfl hs
   have h29:=Kg h29
   refine Jt (Kd (Jc (Ke hs (Jf (zE ?_)))))
   cases h29
   exact zB
  refine zU hb (Kc (Jv ?_))
  cases h29
  exact zX
 rintro _ s' rfl hs
 have h:=Kg h
 refine Jt (Jc (Ke hs (Ja (Jf (zE (Jc (Jp ?_)))))))
 cases h
 exact zQ
/-! signallingref07.elements -/
noncomputable def Bz (a0:Jd):Int→Option (Int⊕(Unit⊕Int)):=fun x3 =>
 bif decide (x3<((a0.Elements.length:Nat):Int)) then (
  (ixO a0.Elements x3).bind fun x6 =>
  (Fm a0 x6).bind fun r7 =>
  bif (!r7) then (
   some (.inr (.inr 1))
  ) else (
   some (.inl (w64 (x3+1)))
  )
 ) else (
  some (.inr (.inl ()))
 )
noncomputable def Cd (a0:Jd):Int→Option (Int⊕(Unit⊕Int)):=fun x9 =>
 bif decide (x9<((a0.Sections.length:Nat):Int)) then (
  (Zj a0 x9).bind fun r11 =>
  bif decide (((r11.length:Nat):Int)=0) then (
   some (.inr (.inr 1))
  ) else (
   some (.inl (w64 (x9+1)))
  )
 ) else (
  some (.inr (.inl ()))
 )
noncomputable def Bw (a0:Jd):(Int×(List Jg))→Option ((Int×(List Jg))⊕((List Jg)⊕Int)):=fun (x23,x24) =>
 bif decide (x23<((a0.Joints.length:Nat):Int)) then (
  (ixO a0.Joints x23).bind fun x31 =>
  (Yo a0 x31.A).bind fun r32 =>
  ((bif (!r32) then some true else (
   (Yo a0 x31.B).bind fun r34 =>
   some (!r34)
  )):Option Bool).bind fun b33 =>
  bif (b33||(Ka x31.A x31.B)) then (
   some (.inr (.inr 1))
  ) else (
   (Vv x24 [x31.A,x31.B]).bind fun x35 =>
   some (.inl (w64 (x23+1),x35))
  )
 ) else (
  some (.inr (.inl x24))
 )
noncomputable def Yn (a0:Jd):Option Int :=
 onInl (α:=Unit) (β:=Int) (Kl (Bz a0) 0) fun _ =>
 onInl (α:=Unit) (β:=Int) (Kl (Cd a0) 0) fun _ =>
 onInl (α:=(List Jg)) (β:=Int) (Kl (Bw a0) (0,([]:(List Jg)))) fun x30 =>
 (Iq x30).bind fun r36 =>
 bif r36 then (
  some 8
 ) else (
  some 0
 )
theorem Jbv (a0:Jd) (r:Int) (h:Yn a0=some r):Km Go.Proofs.Tryz.prog GlS 41 [Enc.pv a0] (Enc.pv r):=by
 unfold Yn at h
 refine Jr Go.Proofs.Tryz.func41 (by rfl) rfl Go.Proofs.Tryz.ntmps41 (by rfl) rfl ?_
 refine Ja (Jf (zE (Jc (Ja (Ja (Jf (zR 2 ?_)))))))
 refine Kf (L:=(a0.Elements:(List Jq))) (by kernel_rfl) ?_
 refine zE (Jc (Jn ?_))
 obtain ⟨o8,h8,h⟩:=Kq h
 refine Ki 69 0 (fun x3=>⟨[(1,.ref 1 0),(10,Jo .frozen (a0.Elements:(List Jq))),(11,.int .i64 ((a0.Elements.length:Nat):Int)),(12,.int .i64 x3)],[(1,.cells (cellsOf a0))],[],[]⟩) (fun (_:Unit)=>⟨[(1,.ref 1 0)],[(1,.cells (cellsOf a0))],[],[]⟩) h8 (by kernel_rfl) (fun _=>by kernel_rfl) ?_ ?_
 ·rintro x3 oh7 h7
  unfold Bz at h7
  refine Ja (Jf (zE (Jc (Ja ?_))))
  rcases Jk h7 with ⟨hb,h7⟩|⟨hb,h7⟩
  ·refine zT hb (Jj (Jc (Ja (Jn (Ja (Jf ?_))))))
   obtain ⟨x6,h9,h7⟩:=Jh h7
   refine zI h9 (zE (Jc (Ja (Jf (zR 2 ?_)))))
   obtain ⟨r7,h10,h7⟩:=Jh h7
   refine Ju (Jev _ _ r7 h10) (by kernel_rfl) (by kernel_rfl) (zE (Jc ?_))
   rcases Jk h7 with ⟨hb,h7⟩|⟨hb,h7⟩
   ·refine zT hb (Ja (Jf (zE (Jc (Jp (Jm (Ji ?_)))))))
    cases h7
    refine Kb fun he=>?_
    subst he
    have h11:=Ku h
    refine Jm (Ji ?_)
    cases h11
    exact zQ
   refine zU hb (Jj (Kd (Jc (Jf (zE ?_)))))
   cases h7
   exact zB
  refine zU hb (Kc (Jv ?_))
  cases h7
  exact zX
 rintro _ s' rfl hs
 have h:=Kg h
 refine Jt (Jc (Ke hs (Ja (Ja (Jf (zR 2 ?_))))))
 refine Kf (L:=(a0.Sections:(List ByteArray))) (by kernel_rfl) ?_
 refine zE (Jc (Jn ?_))
 obtain ⟨o17,h17,h⟩:=Kq h
 refine Ki 69 2 (fun x9=>⟨[(1,.ref 1 0),(23,.int .i64 ((a0.Sections.length:Nat):Int)),(24,.int .i64 x9)],[(1,.cells (cellsOf a0))],[],[]⟩) (fun (_:Unit)=>⟨[(1,.ref 1 0)],[(1,.cells (cellsOf a0))],[],[]⟩) h17 (by kernel_rfl) (fun _=>by kernel_rfl) ?_ ?_
 ·rintro x9 oh16 h16
  unfold Cd at h16
  refine Ja (Jf (zE (Jc (Ja ?_))))
  rcases Jk h16 with ⟨hb,h16⟩|⟨hb,h16⟩
  ·refine zT hb (Jj (Jc (Ja (Jn (Ja (Jf (zE (Jc (Ja (Jf (zR 2 ?_)))))))))))
   obtain ⟨r11,h18,h16⟩:=Jh h16
   refine Ju (Jcg _ _ r11 h18) (by kernel_rfl) (by kernel_rfl) ?_
   refine Kf (L:=(r11:(List Int))) (by kernel_rfl) ?_
   refine zE (Jc ?_)
   rcases Jk h16 with ⟨hb,h16⟩|⟨hb,h16⟩
   ·refine zT hb (Ja (Jf (zE (Jc (Jp (Jm (Ji ?_)))))))
    cases h16
    refine Kb fun he=>?_
    subst he
    have h19:=Ku h
    refine Jm (Ji ?_)
    cases h19
    exact zQ
   refine zU hb (Jj (Kd (Jc (Jf (zE ?_)))))
   cases h16
   exact zB
  refine zU hb (Kc (Jv ?_))
  cases h16
  exact zX
 rintro _ s' rfl hs
 have h:=Kg h
 refine Jt (Jc (Ke hs (Ja (Jf (zE (Jc (Ja (Ja (Jf (zR 2 ?_))))))))))
 refine Kf (L:=(a0.Joints:(List Jx))) (by kernel_rfl) ?_
 refine zE (Jc (Jn (Df 6 100006 2 16 (by kernel_rfl) (by kernel_rfl) ?_)))
 obtain ⟨o39,h39,h⟩:=Kq h
 refine Ki 69 4 (fun (x23,x24)=>⟨[(1,.ref 1 0),(6,Jo (.own 100006) (x24:(List Jg))),(34,Jo .frozen (a0.Joints:(List Jx))),(35,.int .i64 ((a0.Joints.length:Nat):Int)),(36,.int .i64 x23)],[(1,.cells (cellsOf a0))],[(100006,(((x24).map cellsOf).length,2))],[]⟩) (fun x30=>⟨[(6,Jo (.own 100006) (x30:(List Jg)))],[],[(100006,(((x30).map cellsOf).length,2))],[]⟩) h39 (by kernel_rfl) (fun _=>by kernel_rfl) ?_ ?_
 ·rintro ⟨x23,x24⟩ oh38 h38
  unfold Bw at h38
  refine Ja (Jf (zE (Jc (Ja ?_))))
  rcases Jk h38 with ⟨hb,h38⟩|⟨hb,h38⟩
  ·refine zT hb (Jj (Jc (Ja (Jn (Ja (Jf ?_))))))
   obtain ⟨x31,h40,h38⟩:=Jh h38
   refine zI h40 (zE (Jc (Ja (Ja (Jf (zR 3 ?_))))))
   obtain ⟨r32,h41,h38⟩:=Jh h38
   refine Ju (Ig _ _ r32 h41) (by kernel_rfl) (by kernel_rfl) ?_
   obtain ⟨b33,h42,h38⟩:=Jh h38
   refine zR 2 ?_
   refine Kt 6 51 (.bool b33) ?_ ?_
   ·rcases Jk h42 with ⟨hb,h42⟩|⟨hb,h42⟩
    ·refine zS 45 hb ?_
     cases h42
     exact zF
    refine zS 45 hb (zR 3 ?_)
    obtain ⟨r34,h43,h42⟩:=Jh h42
    refine Ju (Ig _ _ r34 h43) (by kernel_rfl) (by kernel_rfl) ?_
    cases h42
    exact zF
   refine zR 1 ?_
   refine Qb 6 58 (b33||(Ka x31.A x31.B)) (fun x hx=>?_) ?_
   ·rcases Ck hx with ⟨hb,hx⟩|⟨hb,hx⟩
    ·refine zS 52 hb ?_
     subst hx
     exact zF
    refine zS 52 hb ?_
    subst hx
    exact zF
   refine zN (Jc ?_)
   rcases Jk h38 with ⟨hb,h38⟩|⟨hb,h38⟩
   ·refine zT hb (Ja (Jf (zE (Jc (Jp (Ji (Jm (Ji ?_))))))))
    cases h38
    refine Kb fun he=>?_
    subst he
    have h44:=Ku h
    refine Jm (Ji ?_)
    cases h44
    exact zQ
   refine zU hb (Jj (Jc (Jf (zR 6 ?_))))
   obtain ⟨x35,h45,h38⟩:=Jh h38
   refine Zz (tk:=100006) h45 (by kernel_rfl) (by kernel_rfl) ?_
   refine zE (Kd (Jc (Jf (zE ?_))))
   cases h38
   exact zB
  refine zU hb (Kc (Jv ?_))
  cases h38
  exact zX
 rintro x30 s' rfl hs
 have h:=Kg h
 refine Jt (Jc (Ke hs (Ja (Ja (Jf (zR 1 ?_))))))
 obtain ⟨r36,h46,h⟩:=Jh h
 refine Ju (Ts _ r36 h46) (by kernel_rfl) (by kernel_rfl) (zN (Jc ?_))
 rcases Jk h with ⟨hb,h⟩|⟨hb,h⟩
 ·refine zT hb (Ja (Jf (zE (Jc (Jp (Ji ?_))))))
  cases h
  exact zQ
 refine zU hb (Jj (Jc (Ja (Jf (zE (Jc (Jp ?_)))))))
 cases h
 exact zQ
/-! signallingref07.Joined -/
noncomputable def Er (a0:Jd) (a1:Jg):Int→Option (Int⊕(Unit⊕(Jg×Bool))):=fun x2 =>
 bif decide (x2<((a0.Joints.length:Nat):Int)) then (
  (ixO a0.Joints x2).bind fun x4 =>
  bif Ka x4.A a1 then (
   some (.inr (.inr (x4.B,true)))
  ) else (
   bif Ka x4.B a1 then (
    some (.inr (.inr (x4.A,true)))
   ) else (
    some (.inl (w64 (x2+1)))
   )
  )
 ) else (
  some (.inr (.inl ()))
 )
noncomputable def Yv (a0:Jd) (a1:Jg):Option (Jg×Bool) :=
 onInl (α:=Unit) (β:=(Jg×Bool)) (Kl (Er a0 a1) 0) fun _ =>
 some ((Jg.mk 0 0),false)
theorem Ht (a0:Jd) (a1:Jg) (r:(Jg×Bool)) (h:Yv a0 a1=some r):Km Go.Proofs.Tryz.prog GlS 31 [Enc.pv a0,Enc.pv a1] (.tup [Enc.pv r.1,Enc.pv r.2]):=by
 unfold Yv at h
 refine Jr Go.Proofs.Tryz.func31 (by rfl) rfl Go.Proofs.Tryz.ntmps31 (by rfl) rfl ?_
 refine Ja (Jf (zE (Jc (Ja (Ja (Jf (zR 2 ?_)))))))
 refine Kf (L:=(a0.Joints:(List Jx))) (by kernel_rfl) ?_
 refine zE (Jc (Jn ?_))
 obtain ⟨o8,h8,h⟩:=Kq h
 refine Ki 29 0 (fun x2=>⟨[(3,.ref 3 0),(4,.ref 4 0),(9,Jo .frozen (a0.Joints:(List Jx))),(10,.int .i64 ((a0.Joints.length:Nat):Int)),(11,.int .i64 x2)],[(3,.cells (cellsOf a1)),(4,.cells ([.int .i64 0,.int .i64 0]))],[],[]⟩) (fun (_:Unit)=>⟨[(4,.ref 4 0)],[(4,.cells ([.int .i64 0,.int .i64 0]))],[],[]⟩) h8 (by kernel_rfl) (fun _=>by kernel_rfl) ?_ ?_
 ·rintro x2 oh7 h7
  unfold Er at h7
  refine Ja (Jf (zE (Jc (Ja ?_))))
  rcases Jk h7 with ⟨hb,h7⟩|⟨hb,h7⟩
  ·refine zT hb (Jj (Jc (Ja (Jn (Ja (Jf ?_))))))
   obtain ⟨x4,h9,h7⟩:=Jh h7
   refine zI h9 (zE (Jc (Ja (Ja (Jf (zE (Jc ?_)))))))
   rcases Jk h7 with ⟨hb,h7⟩|⟨hb,h7⟩
   ·refine zT hb (Ja (Jf (zE (Jc (Jp (Ji (Jm (Ji ?_))))))))
    cases h7
    refine Kb fun he=>?_
    subst he
    have h10:=Ku h
    refine Jm (Ji ?_)
    cases h10
    exact zQ
   refine zU hb (Jj (Jc (Ja (Jf (zE (Jc ?_))))))
   rcases Jk h7 with ⟨hb,h7⟩|⟨hb,h7⟩
   ·refine zT hb (Ja (Jf (zE (Jc (Jp (Jm (Ji ?_)))))))
    cases h7
    refine Kb fun he=>?_
    subst he
    have h11:=Ku h
    refine Jm (Ji ?_)
    cases h11
    exact zQ
   refine zU hb (Jj (Kd (Jc (Jf (zE ?_)))))
   cases h7
   exact zB
  refine zU hb (Kc (Jv ?_))
  cases h7
  exact zX
 rintro _ s' rfl hs
 have h:=Kg h
 refine Jt (Jc (Ke hs (Ja (Jf (zE (Jc (Jp ?_)))))))
 cases h
 exact zQ
/-! signallingref07.signals -/
noncomputable def Ct (a0:Jd):(Int×(List Jg))→Option ((Int×(List Jg))⊕((List Jg)⊕Int)):=fun (x8,x9) =>
 bif decide (x8<((a0.Signals.length:Nat):Int)) then (
  (ixO a0.Signals x8).bind fun x14 =>
  (Yo a0 x14.At).bind fun r15 =>
  bif (((!r15)||(decide (x14.Overlap<0)))||(decide (1000000<x14.Overlap))) then (
   some (.inr (.inr 1))
  ) else (
   (Vv x9 [x14.At]).bind fun x16 =>
   some (.inl (w64 (x8+1),x16))
  )
 ) else (
  some (.inr (.inl x9))
 )
noncomputable def Cs (a0:Jd) (x13:(List Jg)):Int→Option (Int⊕(Unit⊕Int)):=fun x23 =>
 bif decide (x23<((x13.length:Nat):Int)) then (
  (ixO x13 x23).bind fun x29 =>
  (Yv a0 x29).bind fun r30 =>
  ((bif (!r30.2) then some true else (
   (ixO a0.Elements r30.1.El).bind fun x32 =>
   (ixO a0.Elements x29.El).bind fun x33 =>
   some (decide (x32.Section=x33.Section))
  )):Option Bool).bind fun b31 =>
  bif b31 then (
   some (.inr (.inr 14))
  ) else (
   some (.inl (w64 (x23+1)))
  )
 ) else (
  some (.inr (.inl ()))
 )
noncomputable def Zi (a0:Jd):Option Int :=
 onInl (α:=(List Jg)) (β:=Int) (Kl (Ct a0) (0,([]:(List Jg)))) fun x13 =>
 (Iq x13).bind fun r17 =>
 bif r17 then (
  some 8
 ) else (
  onInl (α:=Unit) (β:=Int) (Kl (Cs a0 x13) 0) fun _ =>
  some 0
 )
theorem Jcp (a0:Jd) (r:Int) (h:Zi a0=some r):Km Go.Proofs.Tryz.prog GlS 42 [Enc.pv a0] (Enc.pv r):=by
 unfold Zi at h
 refine Jr Go.Proofs.Tryz.func42 (by rfl) rfl Go.Proofs.Tryz.ntmps42 (by rfl) rfl ?_
 refine Ja (Jf (zE (Jc (Ja (Jf (zE (Jc (Ja (Ja (Jf (zR 2 ?_)))))))))))
 refine Kf (L:=(a0.Signals:(List Js))) (by kernel_rfl) ?_
 refine zE (Jc (Jn (Df 3 100003 2 16 (by kernel_rfl) (by kernel_rfl) ?_)))
 obtain ⟨o14,h14,h⟩:=Kq h
 refine Ki 72 0 (fun (x8,x9)=>⟨[(1,.ref 1 0),(3,Jo (.own 100003) (x9:(List Jg))),(11,Jo .frozen (a0.Signals:(List Js))),(12,.int .i64 ((a0.Signals.length:Nat):Int)),(13,.int .i64 x8)],[(1,.cells (cellsOf a0))],[(100003,(((x9).map cellsOf).length,2))],[]⟩) (fun x13=>⟨[(1,.ref 1 0),(3,Jo (.own 100003) (x13:(List Jg)))],[(1,.cells (cellsOf a0))],[(100003,(((x13).map cellsOf).length,2))],[]⟩) h14 (by kernel_rfl) (fun _=>by kernel_rfl) ?_ ?_
 ·rintro ⟨x8,x9⟩ oh13 h13
  unfold Ct at h13
  refine Ja (Jf (zE (Jc (Ja ?_))))
  rcases Jk h13 with ⟨hb,h13⟩|⟨hb,h13⟩
  ·refine zT hb (Jj (Jc (Ja (Jn (Ja (Jf ?_))))))
   obtain ⟨x14,h15,h13⟩:=Jh h13
   refine zI h15 (zE (Jc (Ja (Ja (Jf (zR 3 ?_))))))
   obtain ⟨r15,h16,h13⟩:=Jh h13
   refine Ju (Ig _ _ r15 h16) (by kernel_rfl) (by kernel_rfl) (zR 2 ?_)
   refine Qb 4 26 ((!r15)||(decide (x14.Overlap<0))) (fun x hx=>?_) ?_
   ·rcases Ck hx with ⟨hb,hx⟩|⟨hb,hx⟩
    ·refine zS 22 hb ?_
     subst hx
     exact zF
    refine zS 22 hb ?_
    subst hx
    exact zF
   refine zR 1 ?_
   refine Qb 4 31 (((!r15)||(decide (x14.Overlap<0)))||(decide (1000000<x14.Overlap))) (fun x hx=>?_) ?_
   ·rcases Ck hx with ⟨hb,hx⟩|⟨hb,hx⟩
    ·refine zS 27 hb ?_
     subst hx
     exact zF
    refine zS 27 hb ?_
    subst hx
    exact zF
   refine zN (Jc ?_)
   rcases Jk h13 with ⟨hb,h13⟩|⟨hb,h13⟩
   ·refine zT hb (Ja (Jf (zE (Jc (Jp (Ji (Jm (Ji ?_))))))))
    cases h13
    refine Kb fun he=>?_
    subst he
    have h17:=Ku h
    refine Jm (Ji ?_)
    cases h17
    exact zQ
   refine zU hb (Jj (Jc (Jf (zR 4 ?_))))
   obtain ⟨x16,h18,h13⟩:=Jh h13
   refine Zz (tk:=100003) h18 (by kernel_rfl) (by kernel_rfl) ?_
   refine zE (Kd (Jc (Jf (zE ?_))))
   cases h13
   exact zB
  refine zU hb (Kc (Jv ?_))
  cases h13
  exact zX
 rintro x13 s' rfl hs
 have h:=Kg h
 refine Jt (Jc (Ke hs (Ja (Ja (Jf (zR 1 ?_))))))
 obtain ⟨r17,h19,h⟩:=Jh h
 refine Ju (Ts _ r17 h19) (by kernel_rfl) (by kernel_rfl) (zN (Jc ?_))
 rcases Jk h with ⟨hb,h⟩|⟨hb,h⟩
 ·refine zT hb (Ja (Jf (zE (Jc (Jp (Ji ?_))))))
  cases h
  exact zQ
 refine zU hb (Jj (Jc (Ja (Ja (Jf (zR 1 ?_))))))
 refine Kf (L:=(x13:(List Jg))) (by kernel_rfl) ?_
 refine zE (Jc (Jn ?_))
 obtain ⟨o33,h33,h⟩:=Kq h
 refine Ki 72 2 (fun x23=>⟨[(1,.ref 1 0),(40,Jo (.own 100003) (x13:(List Jg))),(41,.int .i64 ((x13.length:Nat):Int)),(42,.int .i64 x23)],[(1,.cells (cellsOf a0))],[(100003,(((x13).map cellsOf).length,2))],[]⟩) (fun (_:Unit)=>⟨[],[],[],[]⟩) h33 (by kernel_rfl) (fun _=>by kernel_rfl) ?_ ?_
 ·rintro x23 oh32 h32
  unfold Cs at h32
  refine Ja (Jf (zE (Jc (Ja ?_))))
  rcases Jk h32 with ⟨hb,h32⟩|⟨hb,h32⟩
  ·refine zT hb (Jj (Jc (Ja (Jn (Ja (Jf ?_))))))
   obtain ⟨x29,h34,h32⟩:=Jh h32
   refine zI h34 (zE (Jc (Ja (Jf (zR 2 ?_)))))
   obtain ⟨r30,h35,h32⟩:=Jh h32
   refine Ju (Ht _ _ r30 h35) (by kernel_rfl) (by kernel_rfl) (zE (Jc (Ja (Kv (by kernel_rfl) (by kernel_rfl) ?_))))
   obtain ⟨b31,h36,h32⟩:=Jh h32
   refine zR 3 ?_
   refine Kt 16 70 (.bool b31) ?_ ?_
   ·rcases Jk h36 with ⟨hb,h36⟩|⟨hb,h36⟩
    ·refine zS 54 hb ?_
     cases h36
     exact zF
    refine zS 54 hb (zR 4 ?_)
    obtain ⟨x32,h37,h36⟩:=Jh h36
    refine zI h37 (zR 6 ?_)
    obtain ⟨x33,h38,h36⟩:=Jh h36
    refine zI h38 ?_
    cases h36
    exact zF
   refine zN (Jc ?_)
   rcases Jk h32 with ⟨hb,h32⟩|⟨hb,h32⟩
   ·refine zT hb (Ja (Jf (zE (Jc (Jp (Jm (Ji ?_)))))))
    cases h32
    refine Kb fun he=>?_
    subst he
    have h39:=Ku h
    refine Jm (Ji ?_)
    cases h39
    exact zQ
   refine zU hb (Jj (Kd (Jc (Jf (zE ?_)))))
   cases h32
   exact zB
  refine zU hb (Kc (Jv ?_))
  cases h32
  exact zX
 rintro _ s' rfl hs
 have h:=Kg h
 refine Jt (Jc (Ke hs (Ja (Jf (zE (Jc (Jp ?_)))))))
 cases h
 exact zQ
/-! signallingref07.numbers -/
noncomputable def Pn (a0:(List Int)) (x8:Int):Int→Option (Int⊕(Unit⊕(Int⊕(Unit⊕Bool)))):=fun x18 =>
 bif decide (x18<x8) then (
  (ixO a0 x8).bind fun x21 =>
  (ixO a0 x18).bind fun x22 =>
  bif decide (x21=x22) then (
   some (.inr (.inr (.inr (.inr true))))
  ) else (
   some (.inl (w64 (x18+1)))
  )
 ) else (
  some (.inr (.inl ()))
 )
noncomputable def Pk (a0:(List Int)):Int→Option (Int⊕(Unit⊕Bool)):=fun x8 =>
 bif decide (x8<((a0.length:Nat):Int)) then (
  onInl (α:=Unit) (β:=(Int⊕(Unit⊕Bool))) (Kl (Pn a0 x8) 0) fun _ =>
  some (.inl (w64 (x8+1)))
 ) else (
  some (.inr (.inl ()))
 )
noncomputable def Gh (a0:(List Int)):Option Bool :=
 onInl (α:=Unit) (β:=Bool) (Kl (Pk a0) 0) fun _ =>
 some false
theorem Jct (a0:(List Int)) (r:Bool) (h:Gh a0=some r):Km Go.Proofs.Tryz.prog GlS 84 [Enc.pv a0] (Enc.pv r):=by
 unfold Gh at h
 refine Jr Go.Proofs.Tryz.func84 (by rfl) rfl Go.Proofs.Tryz.ntmps84 (by rfl) rfl ?_
 refine Ja (Jf (zE (Jc (Ja (Ja (Jf (zR 1 ?_)))))))
 refine Kf (L:=(a0:(List Int))) (by kernel_rfl) ?_
 refine zE (Jc (Jn ?_))
 obtain ⟨o30,h30,h⟩:=Kq h
 refine Ki 25 0 (fun x8=>⟨[(0,Jo .frozen (a0:(List Int))),(6,.int .i64 ((a0.length:Nat):Int)),(7,.int .i64 x8)],[],[],[]⟩) (fun (_:Unit)=>⟨[],[],[],[]⟩) h30 (by kernel_rfl) (fun _=>by kernel_rfl) ?_ ?_
 ·rintro x8 oh29 h29
  unfold Pk at h29
  refine Ja (Jf (zE (Jc (Ja ?_))))
  rcases Jk h29 with ⟨hb,h29⟩|⟨hb,h29⟩
  ·refine zT hb (Jj (Jc (Ja (Jn (Ja (Jf (zE (Jc (Ja (Jf (zE (Jc (Jn ?_)))))))))))))
   obtain ⟨o40,h40,h29⟩:=Kq h29
   refine Ki 25 2 (fun x18=>⟨[(0,Jo .frozen (a0:(List Int))),(3,.int .i64 x8),(6,.int .i64 ((a0.length:Nat):Int)),(7,.int .i64 x8),(10,.int .i64 x8),(11,.int .i64 x18)],[],[],[]⟩) (fun (_:Unit)=>⟨[(0,Jo .frozen (a0:(List Int))),(6,.int .i64 ((a0.length:Nat):Int)),(7,.int .i64 x8)],[],[],[]⟩) h40 (by kernel_rfl) (fun _=>by kernel_rfl) ?_ ?_
   ·rintro x18 oh39 h39
    unfold Pn at h39
    refine Ja (Jf (zE (Jc (Ja ?_))))
    rcases Jk h39 with ⟨hb,h39⟩|⟨hb,h39⟩
    ·refine zT hb (Jj (Jc (Ja (Jn (Ja (Jf (zE (Jc (Ja (Kv (by kernel_rfl) (by kernel_rfl) (zR 2 ?_)))))))))))
     obtain ⟨x21,h41,h39⟩:=Jh h39
     refine zI h41 (zR 3 ?_)
     obtain ⟨x22,h42,h39⟩:=Jh h39
     refine zI h42 (zE (Jc ?_))
     rcases Jk h39 with ⟨hb,h39⟩|⟨hb,h39⟩
     ·refine zT hb (Ja (Jf (zE (Jc (Jp (Jm (Ji ?_)))))))
      cases h39
      refine Kb fun he=>?_
      subst he
      have h43:=Ku h29
      refine Jm (Jm (Ji ?_))
      cases h43
      refine Kb fun he=>?_
      subst he
      have h44:=Ku h
      refine Jm (Ji ?_)
      cases h44
      exact zQ
     refine zU hb (Jj (Kd (Jc (Jf (zE ?_)))))
     cases h39
     exact zB
    refine zU hb (Kc (Jv ?_))
    cases h39
    exact zX
   rintro _ s' rfl hs
   have h29:=Kg h29
   refine Jt (Kd (Jc (Ke hs (Jf (zE ?_)))))
   cases h29
   exact zB
  refine zU hb (Kc (Jv ?_))
  cases h29
  exact zX
 rintro _ s' rfl hs
 have h:=Kg h
 refine Jt (Jc (Ke hs (Ja (Jf (zE (Jc (Jp ?_)))))))
 cases h
 exact zQ
/-! signallingref07.balises -/
noncomputable def Cz (a0:Jd):(Int×(List Int))→Option ((Int×(List Int))⊕((List Int)⊕Int)):=fun (x12,x13) =>
 bif decide (x12<((a0.Balises.length:Nat):Int)) then (
  (ixO a0.Balises x12).bind fun x20 =>
  ((bif (((decide (x20.Id<1))||(decide (1073741824<x20.Id)))||(decide (x20.El<0))) then some true else (
   some (decide (((a0.Elements.length:Nat):Int)≤x20.El))
  )):Option Bool).bind fun b21 =>
  ((bif (b21||(decide (x20.Offset<0))) then some true else (
   (ixO a0.Elements x20.El).bind fun x23 =>
   some (decide (x23.Length<x20.Offset))
  )):Option Bool).bind fun b22 =>
  bif b22 then (
   some (.inr (.inr 1))
  ) else (
   (Vv x13 [x20.Id]).bind fun x24 =>
   some (.inl (w64 (x12+1),x24))
  )
 ) else (
  some (.inr (.inl x13))
 )
noncomputable def Zk (a0:Jd):Option Int :=
 onInl (α:=(List Int)) (β:=Int) (Kl (Cz a0) (0,([]:(List Int)))) fun x19 =>
 (Gh x19).bind fun r25 =>
 bif r25 then (
  some 8
 ) else (
  some 0
 )
theorem Jcy (a0:Jd) (r:Int) (h:Zk a0=some r):Km Go.Proofs.Tryz.prog GlS 43 [Enc.pv a0] (Enc.pv r):=by
 unfold Zk at h
 refine Jr Go.Proofs.Tryz.func43 (by rfl) rfl Go.Proofs.Tryz.ntmps43 (by rfl) rfl ?_
 refine Ja (Jf (zE (Jc (Ja (Jf (zE (Jc (Ja (Ja (Jf (zR 2 ?_)))))))))))
 refine Kf (L:=(a0.Balises:(List Kh))) (by kernel_rfl) ?_
 refine zE (Jc (Jn (Df 3 100003 1 8 (by kernel_rfl) (by kernel_rfl) ?_)))
 obtain ⟨o20,h20,h⟩:=Kq h
 refine Ki 59 0 (fun (x12,x13)=>⟨[(1,.ref 1 0),(3,Jo (.own 100003) (x13:(List Int))),(7,Jo .frozen (a0.Balises:(List Kh))),(8,.int .i64 ((a0.Balises.length:Nat):Int)),(9,.int .i64 x12)],[(1,.cells (cellsOf a0))],[(100003,(((x13).map cellsOf).length,1))],[]⟩) (fun x19=>⟨[(3,Jo (.own 100003) (x19:(List Int)))],[],[(100003,(((x19).map cellsOf).length,1))],[]⟩) h20 (by kernel_rfl) (fun _=>by kernel_rfl) ?_ ?_
 ·rintro ⟨x12,x13⟩ oh19 h19
  unfold Cz at h19
  refine Ja (Jf (zE (Jc (Ja ?_))))
  rcases Jk h19 with ⟨hb,h19⟩|⟨hb,h19⟩
  ·refine zT hb (Jj (Jc (Ja (Jn (Ja (Jf ?_))))))
   obtain ⟨x20,h21,h19⟩:=Jh h19
   refine zI h21 (zE (Jc (Ja (Ja (Kv (by kernel_rfl) (by kernel_rfl) (zR 4 ?_))))))
   refine Qb 4 20 ((decide (x20.Id<1))||(decide (1073741824<x20.Id))) (fun x hx=>?_) ?_
   ·rcases Ck hx with ⟨hb,hx⟩|⟨hb,hx⟩
    ·refine zS 16 hb ?_
     subst hx
     exact zF
    refine zS 16 hb ?_
    subst hx
    exact zF
   refine zR 1 ?_
   refine Qb 4 25 (((decide (x20.Id<1))||(decide (1073741824<x20.Id)))||(decide (x20.El<0))) (fun x hx=>?_) ?_
   ·rcases Ck hx with ⟨hb,hx⟩|⟨hb,hx⟩
    ·refine zS 21 hb ?_
     subst hx
     exact zF
    refine zS 21 hb ?_
    subst hx
    exact zF
   obtain ⟨b21,h22,h19⟩:=Jh h19
   refine zR 1 ?_
   refine Kt 7 33 (.bool b21) ?_ ?_
   ·rcases Jk h22 with ⟨hb,h22⟩|⟨hb,h22⟩
    ·refine zS 26 hb ?_
     cases h22
     exact zF
    refine zS 26 hb (zR 4 ?_)
    refine Kf (L:=(a0.Elements:(List Jq))) (by kernel_rfl) ?_
    cases h22
    exact zF
   refine zR 1 ?_
   refine Qb 4 38 (b21||(decide (x20.Offset<0))) (fun x hx=>?_) ?_
   ·rcases Ck hx with ⟨hb,hx⟩|⟨hb,hx⟩
    ·refine zS 34 hb ?_
     subst hx
     exact zF
    refine zS 34 hb ?_
    subst hx
    exact zF
   obtain ⟨b22,h23,h19⟩:=Jh h19
   refine zR 1 ?_
   refine Kt 11 50 (.bool b22) ?_ ?_
   ·rcases Jk h23 with ⟨hb,h23⟩|⟨hb,h23⟩
    ·refine zS 39 hb ?_
     cases h23
     exact zF
    refine zS 39 hb (zR 6 ?_)
    obtain ⟨x23,h24,h23⟩:=Jh h23
    refine zI h24 ?_
    cases h23
    exact zF
   refine zN (Jc ?_)
   rcases Jk h19 with ⟨hb,h19⟩|⟨hb,h19⟩
   ·refine zT hb (Ja (Jf (zE (Jc (Jp (Ji (Jm (Ji ?_))))))))
    cases h19
    refine Kb fun he=>?_
    subst he
    have h25:=Ku h
    refine Jm (Ji ?_)
    cases h25
    exact zQ
   refine zU hb (Jj (Jc (Jf (zR 4 ?_))))
   obtain ⟨x24,h26,h19⟩:=Jh h19
   refine Zz (tk:=100003) h26 (by kernel_rfl) (by kernel_rfl) ?_
   refine zE (Kd (Jc (Jf (zE ?_))))
   cases h19
   exact zB
  refine zU hb (Kc (Jv ?_))
  cases h19
  exact zX
 rintro x19 s' rfl hs
 have h:=Kg h
 refine Jt (Jc (Ke hs (Ja (Ja (Jf (zR 1 ?_))))))
 obtain ⟨r25,h27,h⟩:=Jh h
 refine Ju (Jct _ r25 h27) (by kernel_rfl) (by kernel_rfl) (zN (Jc ?_))
 rcases Jk h with ⟨hb,h⟩|⟨hb,h⟩
 ·refine zT hb (Ja (Jf (zE (Jc (Jp (Ji ?_))))))
  cases h
  exact zQ
 refine zU hb (Jj (Jc (Ja (Jf (zE (Jc (Jp ?_)))))))
 cases h
 exact zQ
/-! signallingref07.Check -/
noncomputable def Yi (a0:Jd):Option Int :=
 (Fo a0).bind fun r1 =>
 bif (!(decide (r1=0))) then (
  some r1
 ) else (
  (Yn a0).bind fun r2 =>
  bif (!(decide (r2=0))) then (
   some r2
  ) else (
   (Zi a0).bind fun r3 =>
   bif (!(decide (r3=0))) then (
    some r3
   ) else (
    (Zk a0).bind fun r4 =>
    some r4
   )
  )
 )
theorem Li (a0:Jd) (r:Int) (h:Yi a0=some r):Km Go.Proofs.Tryz.prog GlS 13 [Enc.pv a0] (Enc.pv r):=by
 unfold Yi at h
 refine Jr Go.Proofs.Tryz.func13 (by rfl) rfl Go.Proofs.Tryz.ntmps13 (by rfl) rfl ?_
 refine Ja (Jf (zE (Jc (Ja (Ja (Jf (zR 1 ?_)))))))
 obtain ⟨r1,h1,h⟩:=Jh h
 refine Ju (Jfi _ r1 h1) (by kernel_rfl) (by kernel_rfl) (zE (Jc (Ja (Jf (zE (Jc ?_))))))
 rcases Jk h with ⟨hb,h⟩|⟨hb,h⟩
 ·refine zT hb (Ja (Jf (zE (Jc (Jp (Ji ?_))))))
  cases h
  exact zQ
 refine zU hb (Jj (Jc (Ja (Ja (Jf (zR 1 ?_))))))
 obtain ⟨r2,h2,h⟩:=Jh h
 refine Ju (Jbv _ r2 h2) (by kernel_rfl) (by kernel_rfl) (zE (Jc (Ja (Jf (zE (Jc ?_))))))
 rcases Jk h with ⟨hb,h⟩|⟨hb,h⟩
 ·refine zT hb (Ja (Jf (zE (Jc (Jp (Ji ?_))))))
  cases h
  exact zQ
 refine zU hb (Jj (Jc (Ja (Ja (Jf (zR 1 ?_))))))
 obtain ⟨r3,h3,h⟩:=Jh h
 refine Ju (Jcp _ r3 h3) (by kernel_rfl) (by kernel_rfl) (zE (Jc (Ja (Jf (zE (Jc ?_))))))
 rcases Jk h with ⟨hb,h⟩|⟨hb,h⟩
 ·refine zT hb (Ja (Jf (zE (Jc (Jp (Ji ?_))))))
  cases h
  exact zQ
 refine zU hb (Jj (Jc (Ja (Jf (zR 1 ?_)))))
 obtain ⟨r4,h4,h⟩:=Jh h
 refine Ju (Jcy _ r4 h4) (by kernel_rfl) (by kernel_rfl) (zE (Jc (Jp ?_)))
 cases h
 exact zQ
/-! signallinglaw12.modest -/
noncomputable def Eo (a0:Jd):(Int×Int)→Option ((Int×Int)⊕(Int⊕Bool)):=fun (x6,x7) =>
 bif decide (x7<((a0.Elements.length:Nat):Int)) then (
  onInl (α:=Int) (β:=((Int×Int)⊕(Int⊕Bool))) (
   (ixO a0.Elements x7).bind fun x14 =>
   bif decide (x14.Kind=2) then (
    some (.inl (w64 (x6+1)))
   ) else (
    some (.inl x6)
   )
  ) fun x13 =>
  some (.inl (x13,w64 (x7+1)))
 ) else (
  some (.inr (.inl x6))
 )
noncomputable def Vj (a0:Jd):Option Bool :=
 ((bif decide (100<((a0.Elements.length:Nat):Int)) then some true else (
  (Yi a0).bind fun r2 =>
  some (!(decide (r2=0)))
 )):Option Bool).bind fun b1 =>
 bif b1 then (
  some false
 ) else (
  onInl (α:=Int) (β:=Bool) (Kl (Eo a0) (0,0)) fun x11 =>
  some (decide (x11≤8))
 )
theorem Zq (a0:Jd) (r:Bool) (h:Vj a0=some r):Km Go.Proofs.Tryz.prog GlS 8 [Enc.pv a0] (Enc.pv r):=by
 unfold Vj at h
 refine Jr Go.Proofs.Tryz.func8 (by rfl) rfl Go.Proofs.Tryz.ntmps8 (by rfl) rfl ?_
 refine Ja (Jf (zE (Jc (Ja (Ja (Jf (zR 2 ?_)))))))
 refine Kf (L:=(a0.Elements:(List Jq))) (by kernel_rfl) ?_
 obtain ⟨b1,h1,h⟩:=Jh h
 refine zR 2 ?_
 refine Kt 4 14 (.bool b1) ?_ ?_
 ·rcases Jk h1 with ⟨hb,h1⟩|⟨hb,h1⟩
  ·refine zS 10 hb ?_
   cases h1
   exact zF
  refine zS 10 hb (zR 1 ?_)
  obtain ⟨r2,h2,h1⟩:=Jh h1
  refine Ju (Li _ r2 h2) (by kernel_rfl) (by kernel_rfl) ?_
  cases h1
  exact zF
 refine zN (Jc ?_)
 rcases Jk h with ⟨hb,h⟩|⟨hb,h⟩
 ·refine zT hb (Ja (Jf (zE (Jc (Jp (Ji ?_))))))
  cases h
  exact zQ
 refine zU hb (Jj (Jc (Ja (Jf (zE (Jc (Ja (Ja (Jf (zR 2 ?_))))))))))
 refine Kf (L:=(a0.Elements:(List Jq))) (by kernel_rfl) ?_
 refine zE (Jc (Jn ?_))
 obtain ⟨o10,h10,h⟩:=Kq h
 refine Ki 30 0 (fun (x6,x7)=>⟨[(3,.int .i64 x6),(16,Jo .frozen (a0.Elements:(List Jq))),(17,.int .i64 ((a0.Elements.length:Nat):Int)),(18,.int .i64 x7)],[],[],[]⟩) (fun x11=>⟨[(3,.int .i64 x11)],[],[],[]⟩) h10 (by kernel_rfl) (fun _=>by kernel_rfl) ?_ ?_
 ·rintro ⟨x6,x7⟩ oh9 h9
  unfold Eo at h9
  refine Ja (Jf (zE (Jc (Ja ?_))))
  rcases Jk h9 with ⟨hb,h9⟩|⟨hb,h9⟩
  ·refine zT hb (Jj (Jc ?_))
   obtain ⟨o12,h12,h9⟩:=Kq h9
   refine Vx (o:=o12) 30 (fun x13=>⟨[(3,.int .i64 x13),(16,Jo .frozen (a0.Elements:(List Jq))),(17,.int .i64 ((a0.Elements.length:Nat):Int)),(18,.int .i64 x7)],[],[],[]⟩) ?_ ?_
   ·refine Jn (Ja (Jf ?_))
    obtain ⟨x14,h13,h12⟩:=Jh h12
    refine zI h13 (zE (Jc (Ja (Jf (zE (Jc ?_))))))
    rcases Jk h12 with ⟨hb,h12⟩|⟨hb,h12⟩
    ·refine zT hb (Jf (zE (Kd ?_)))
     cases h12
     exact zJ
    refine zU hb (Jj (Kd ?_))
    cases h12
    exact zJ
   rintro x13 rfl
   have h9:=Kg h9
   refine Jf (zE ?_)
   cases h9
   exact zB
  refine zU hb (Kc (Jv ?_))
  cases h9
  exact zX
 rintro x11 s' rfl hs
 have h:=Kg h
 refine Jt (Jc (Ke hs (Ja (Jf (zE (Jc (Jp ?_)))))))
 cases h
 exact zQ
/-! signallinglaw12.line -/
noncomputable def Jaw : (Int×(List Jq)×(List Jx)×(List Js))→Option ((Int×(List Jq)×(List Jx)×(List Js))⊕(((List Jq)×(List Jx)×(List Js))⊕Jd)):=fun (x28,x29,x30,x31) =>
 bif decide (x28<(([(ByteArray.mk #[97]),(ByteArray.mk #[98]),(ByteArray.mk #[99])].length:Nat):Int)) then (
  onInl (α:=((List Jq)×(List Jx)×(List Js))) (β:=((Int×(List Jq)×(List Jx)×(List Js))⊕(((List Jq)×(List Jx)×(List Js))⊕Jd))) (
   (ixO [(ByteArray.mk #[97]),(ByteArray.mk #[98]),(ByteArray.mk #[99])] x28).bind fun x56 =>
   (Vv x29 [(Jq.mk x56 1 20000 0 3000 0 x28)]).bind fun x57 =>
   bif decide (0<x28) then (
    (Vv x30 [(Jx.mk (Jg.mk (w64 (x28 - 1)) 1) (Jg.mk x28 0))]).bind fun x58 =>
    (ixO [(ByteArray.mk #[115,49]),(ByteArray.mk #[115,50])] (w64 (x28 - 1))).bind fun x59 =>
    (Vv x31 [(Js.mk x59 (Jg.mk (w64 (x28 - 1)) 1) 0)]).bind fun x60 =>
    some (.inl (x57,x58,x60))
   ) else (
    some (.inl (x57,x30,x31))
   )
  ) fun (x53,x54,x55) =>
  some (.inl (w64 (x28+1),x53,x54,x55))
 ) else (
  some (.inr (.inl (x29,x30,x31)))
 )
noncomputable def Tn : Option Jd :=
 onInl (α:=((List Jq)×(List Jx)×(List Js))) (β:=Jd) (Kl (Jaw) (0,([]:(List Jq)),([]:(List Jx)),([]:(List Js)))) fun (x45,x46,x47) =>
 some (Jd.mk (ByteArray.mk #[108,105,110,101]) [(ByteArray.mk #[116,97]),(ByteArray.mk #[116,98]),(ByteArray.mk #[116,99])] x45 x46 x47 [])
theorem Jgh (r:Jd) (h:Tn=some r):Km Go.Proofs.Tryz.prog GlS 25 [] (Enc.pv r):=by
 unfold Tn at h
 refine Jr Go.Proofs.Tryz.func25 (by rfl) rfl Go.Proofs.Tryz.ntmps25 (by rfl) rfl ?_
 refine Ja (Jf (zE (Jc (Ja (Jf (zE (Jc (Ja (Ja (Jf (zR 1 ?_)))))))))))
 refine Kf (L:=([(ByteArray.mk #[97]),(ByteArray.mk #[98]),(ByteArray.mk #[99])]:(List ByteArray))) (by kernel_rfl) ?_
 refine zE (Jc (Jn ?_))
 refine Ke (Ja7 1 2 200102 7 64 (cs:=[.str (ByteArray.mk #[108,105,110,101]),Jo .full ([(ByteArray.mk #[116,97]),(ByteArray.mk #[116,98]),(ByteArray.mk #[116,99])]:(List ByteArray)),.nil,.nil,.nil,.nil]) (by kernel_rfl) (by kernel_rfl) (by kernel_rfl)) ?_
 refine Ke (Ja7 1 3 200103 4 32 (cs:=[.str (ByteArray.mk #[108,105,110,101]),Jo .full ([(ByteArray.mk #[116,97]),(ByteArray.mk #[116,98]),(ByteArray.mk #[116,99])]:(List ByteArray)),Jo (.own 200102) (([]:(List Jq)):(List Jq)),.nil,.nil,.nil]) (by kernel_rfl) (by kernel_rfl) (by kernel_rfl)) ?_
 refine Ke (Ja7 1 4 200104 4 40 (cs:=[.str (ByteArray.mk #[108,105,110,101]),Jo .full ([(ByteArray.mk #[116,97]),(ByteArray.mk #[116,98]),(ByteArray.mk #[116,99])]:(List ByteArray)),Jo (.own 200102) (([]:(List Jq)):(List Jq)),Jo (.own 200103) (([]:(List Jx)):(List Jx)),.nil,.nil]) (by kernel_rfl) (by kernel_rfl) (by kernel_rfl)) ?_
 obtain ⟨o35,h35,h⟩:=Kq h
 refine Ki 50 0 (fun (x28,x29,x30,x31)=>⟨[(0,.ref 0 0),(1,.ref 1 0),(6,Jo .full ([(ByteArray.mk #[97]),(ByteArray.mk #[98]),(ByteArray.mk #[99])]:(List ByteArray))),(7,.int .i64 (([(ByteArray.mk #[97]),(ByteArray.mk #[98]),(ByteArray.mk #[99])].length:Nat):Int)),(8,.int .i64 x28)],[(0,.cells ([.str ByteArray.empty,.nil,.nil,.nil,.nil,.nil])),(1,.cells ([.str (ByteArray.mk #[108,105,110,101]),Jo .full ([(ByteArray.mk #[116,97]),(ByteArray.mk #[116,98]),(ByteArray.mk #[116,99])]:(List ByteArray)),Jo (.own 200102) (x29:(List Jq)),Jo (.own 200103) (x30:(List Jx)),Jo (.own 200104) (x31:(List Js)),.nil]))],[(200102,(((x29).map cellsOf).length,7)),(200103,(((x30).map cellsOf).length,4)),(200104,(((x31).map cellsOf).length,4))],[]⟩) (fun (x45,x46,x47)=>⟨[(0,.ref 0 0),(1,.ref 1 0)],[(0,.cells ([.str ByteArray.empty,.nil,.nil,.nil,.nil,.nil])),(1,.cells ([.str (ByteArray.mk #[108,105,110,101]),Jo .full ([(ByteArray.mk #[116,97]),(ByteArray.mk #[116,98]),(ByteArray.mk #[116,99])]:(List ByteArray)),Jo (.own 200102) (x45:(List Jq)),Jo (.own 200103) (x46:(List Jx)),Jo (.own 200104) (x47:(List Js)),.nil]))],[(200102,(((x45).map cellsOf).length,7)),(200103,(((x46).map cellsOf).length,4)),(200104,(((x47).map cellsOf).length,4))],[]⟩) h35 (by kernel_rfl) (fun _=>by kernel_rfl) ?_ ?_
 ·rintro ⟨x28,x29,x30,x31⟩ oh34 h34
  unfold Jaw at h34
  refine Ja (Jf (zE (Jc (Ja ?_))))
  rcases Jk h34 with ⟨hb,h34⟩|⟨hb,h34⟩
  ·refine zT hb (Jj (Jc ?_))
   obtain ⟨o41,h41,h34⟩:=Kq h34
   refine Vx (o:=o41) 50 (fun (x53,x54,x55)=>⟨[(0,.ref 0 0),(1,.ref 1 0),(6,Jo .full ([(ByteArray.mk #[97]),(ByteArray.mk #[98]),(ByteArray.mk #[99])]:(List ByteArray))),(7,.int .i64 (([(ByteArray.mk #[97]),(ByteArray.mk #[98]),(ByteArray.mk #[99])].length:Nat):Int)),(8,.int .i64 x28)],[(0,.cells ([.str ByteArray.empty,.nil,.nil,.nil,.nil,.nil])),(1,.cells ([.str (ByteArray.mk #[108,105,110,101]),Jo .full ([(ByteArray.mk #[116,97]),(ByteArray.mk #[116,98]),(ByteArray.mk #[116,99])]:(List ByteArray)),Jo (.own 200102) (x53:(List Jq)),Jo (.own 200103) (x54:(List Jx)),Jo (.own 200104) (x55:(List Js)),.nil]))],[(200102,(((x53).map cellsOf).length,7)),(200103,(((x54).map cellsOf).length,4)),(200104,(((x55).map cellsOf).length,4))],[]⟩) ?_ ?_
   ·refine Jn (Ja (Jf (zR 1 ?_)))
    obtain ⟨x56,h42,h41⟩:=Jh h41
    refine zI h42 (zE (Jc (Ja (Jf (zR 6 ?_)))))
    obtain ⟨x57,h43,h41⟩:=Jh h41
    refine Zz (tk:=200102) h43 (by kernel_rfl) (by kernel_rfl) ?_
    refine zE (Jc (Ja (Jf (zE (Jc ?_)))))
    rcases Jk h41 with ⟨hb,h41⟩|⟨hb,h41⟩
    ·refine zT hb (Ja (Jf (zR 9 ?_)))
     obtain ⟨x58,h44,h41⟩:=Jh h41
     refine Zz (tk:=200103) h44 (by kernel_rfl) (by kernel_rfl) ?_
     refine zE (Jc (Kv (by kernel_rfl) (by kernel_rfl) (zR 5 ?_)))
     obtain ⟨x59,h45,h41⟩:=Jh h41
     refine zI h45 (zR 6 ?_)
     obtain ⟨x60,h46,h41⟩:=Jh h41
     refine Zz (tk:=200104) h46 (by kernel_rfl) (by kernel_rfl) ?_
     refine zE (Kd ?_)
     cases h41
     exact zJ
    refine zU hb (Jj (Kd ?_))
    cases h41
    exact zJ
   rintro ⟨x53,x54,x55⟩ rfl
   have h34:=Kg h34
   refine Jf (zE ?_)
   cases h34
   exact zB
  refine zU hb (Kc (Jv ?_))
  cases h34
  exact zX
 rintro ⟨x45,x46,x47⟩ s' rfl hs
 have h:=Kg h
 refine Jt (Jc (Ke hs (Ja (Jf (zE (Jc (Jp ?_)))))))
 cases h
 exact zQ
/-! layout.Joined -/
noncomputable def Cx (a0:Jd) (a1:Jg):Int→Option (Int⊕(Unit⊕(Jg×Bool))):=fun x2 =>
 bif decide (x2<((a0.Joints.length:Nat):Int)) then (
  (ixO a0.Joints x2).bind fun x4 =>
  bif Ka x4.A a1 then (
   some (.inr (.inr (x4.B,true)))
  ) else (
   bif Ka x4.B a1 then (
    some (.inr (.inr (x4.A,true)))
   ) else (
    some (.inl (w64 (x2+1)))
   )
  )
 ) else (
  some (.inr (.inl ()))
 )
noncomputable def Ww (a0:Jd) (a1:Jg):Option (Jg×Bool) :=
 onInl (α:=Unit) (β:=(Jg×Bool)) (Kl (Cx a0 a1) 0) fun _ =>
 some ((Jg.mk 0 0),false)
theorem Gu (a0:Jd) (a1:Jg) (r:(Jg×Bool)) (h:Ww a0 a1=some r):Km Go.Proofs.Tryz.prog GlS 22 [Enc.pv a0,Enc.pv a1] (.tup [Enc.pv r.1,Enc.pv r.2]):=by
 unfold Ww at h
 refine Jr Go.Proofs.Tryz.func22 (by rfl) rfl Go.Proofs.Tryz.ntmps22 (by rfl) rfl ?_
 refine Ja (Jf (zE (Jc (Ja (Ja (Jf (zR 2 ?_)))))))
 refine Kf (L:=(a0.Joints:(List Jx))) (by kernel_rfl) ?_
 refine zE (Jc (Jn ?_))
 obtain ⟨o8,h8,h⟩:=Kq h
 refine Ki 29 0 (fun x2=>⟨[(3,.ref 3 0),(4,.ref 4 0),(9,Jo .frozen (a0.Joints:(List Jx))),(10,.int .i64 ((a0.Joints.length:Nat):Int)),(11,.int .i64 x2)],[(3,.cells (cellsOf a1)),(4,.cells ([.int .i64 0,.int .i64 0]))],[],[]⟩) (fun (_:Unit)=>⟨[(4,.ref 4 0)],[(4,.cells ([.int .i64 0,.int .i64 0]))],[],[]⟩) h8 (by kernel_rfl) (fun _=>by kernel_rfl) ?_ ?_
 ·rintro x2 oh7 h7
  unfold Cx at h7
  refine Ja (Jf (zE (Jc (Ja ?_))))
  rcases Jk h7 with ⟨hb,h7⟩|⟨hb,h7⟩
  ·refine zT hb (Jj (Jc (Ja (Jn (Ja (Jf ?_))))))
   obtain ⟨x4,h9,h7⟩:=Jh h7
   refine zI h9 (zE (Jc (Ja (Ja (Jf (zE (Jc ?_)))))))
   rcases Jk h7 with ⟨hb,h7⟩|⟨hb,h7⟩
   ·refine zT hb (Ja (Jf (zE (Jc (Jp (Ji (Jm (Ji ?_))))))))
    cases h7
    refine Kb fun he=>?_
    subst he
    have h10:=Ku h
    refine Jm (Ji ?_)
    cases h10
    exact zQ
   refine zU hb (Jj (Jc (Ja (Jf (zE (Jc ?_))))))
   rcases Jk h7 with ⟨hb,h7⟩|⟨hb,h7⟩
   ·refine zT hb (Ja (Jf (zE (Jc (Jp (Jm (Ji ?_)))))))
    cases h7
    refine Kb fun he=>?_
    subst he
    have h11:=Ku h
    refine Jm (Ji ?_)
    cases h11
    exact zQ
   refine zU hb (Jj (Kd (Jc (Jf (zE ?_)))))
   cases h7
   exact zB
  refine zU hb (Kc (Jv ?_))
  cases h7
  exact zX
 rintro _ s' rfl hs
 have h:=Kg h
 refine Jt (Jc (Ke hs (Ja (Jf (zE (Jc (Jp ?_)))))))
 cases h
 exact zQ
/-! layout.Section -/
noncomputable def Qe (a0:Jd) (a1:Int):Option Int :=
 ((bif decide (a1<0) then some true else (
  some (decide (((a0.Elements.length:Nat):Int)≤a1))
 )):Option Bool).bind fun b1 =>
 bif b1 then (
  some (-1)
 ) else (
  (ixO a0.Elements a1).bind fun x2 =>
  some x2.Section
 )
theorem Qt (a0:Jd) (a1:Int) (r:Int) (h:Qe a0 a1=some r):Km Go.Proofs.Tryz.prog GlS 21 [Enc.pv a0,Enc.pv a1] (Enc.pv r):=by
 unfold Qe at h
 refine Jr Go.Proofs.Tryz.func21 (by rfl) rfl Go.Proofs.Tryz.ntmps21 (by rfl) rfl ?_
 refine Ja (Jf (zE (Jc (Ja (Ja (Jf ?_))))))
 obtain ⟨b1,h1,h⟩:=Jh h
 refine zR 3 ?_
 refine Kt 6 13 (.bool b1) ?_ ?_
 ·rcases Jk h1 with ⟨hb,h1⟩|⟨hb,h1⟩
  ·refine zS 7 hb ?_
   cases h1
   exact zF
  refine zS 7 hb (zR 3 ?_)
  refine Kf (L:=(a0.Elements:(List Jq))) (by kernel_rfl) ?_
  cases h1
  exact zF
 refine zN (Jc ?_)
 rcases Jk h with ⟨hb,h⟩|⟨hb,h⟩
 ·refine zT hb (Ja (Jf (zE (Jc (Jp (Ji ?_))))))
  cases h
  exact zQ
 refine zU hb (Jj (Jc (Ja (Jf (zR 3 ?_)))))
 obtain ⟨x2,h2,h⟩:=Jh h
 refine zI h2 (zE (Jc (Jp ?_)))
 cases h
 exact zQ
/-! (*route.finder).open -/
noncomputable def Yz (a0:Jz) (a1:(List Jb)) (a2:Int) (r1:Int):Int→Option (Int⊕(Unit⊕Bool)):=fun x8 =>
 bif decide (x8<((a1.length:Nat):Int)) then (
  (ixO a1 x8).bind fun x15 =>
  bif decide (x15.El=a2) then (
   some (.inr (.inr false))
  ) else (
   ((bif decide (0<x8) then (
    (ixO a1 (w64 (x8 - 1))).bind fun x17 =>
    (Qe a0.l_ x17.El).bind fun r18 =>
    some (decide (r18=r1))
   ) else some false):Option Bool).bind fun b16 =>
   ((bif b16 then (
    (Qe a0.l_ x15.El).bind fun r20 =>
    some (!(decide (r20=r1)))
   ) else some false):Option Bool).bind fun b19 =>
   bif b19 then (
    some (.inr (.inr false))
   ) else (
    some (.inl (w64 (x8+1)))
   )
  )
 ) else (
  some (.inr (.inl ()))
 )
noncomputable def Vl (a0:Jz) (a1:(List Jb)) (a2:Int):Option Bool :=
 (Qe a0.l_ a2).bind fun r1 =>
 onInl (α:=Unit) (β:=Bool) (Kl (Yz a0 a1 a2 r1) 0) fun _ =>
 some true
theorem Tb (a0:Jz) (a1:(List Jb)) (a2:Int) (r:Bool) (h:Vl a0 a1 a2=some r):Km Go.Proofs.Tryz.prog GlS 62 [.cptr (cellsOf a0),Enc.pv a1,Enc.pv a2] (Enc.pv r):=by
 unfold Vl at h
 refine Jr Go.Proofs.Tryz.func62 (by rfl) rfl Go.Proofs.Tryz.ntmps62 (by rfl) rfl ?_
 refine Ja (Jf (zE (Jc (Ja (Jf (zR 5 ?_))))))
 obtain ⟨r1,h1,h⟩:=Jh h
 refine Ju (Qt _ _ r1 h1) (by kernel_rfl) (by kernel_rfl) (zE (Jc (Ja (Ja (Jf (zR 1 ?_))))))
 refine Kf (L:=(a1:(List Jb))) (by kernel_rfl) ?_
 refine zE (Jc (Jn ?_))
 obtain ⟨o19,h19,h⟩:=Kq h
 refine Ki 56 0 (fun x8=>⟨[(0,.cptr (cellsOf a0)),(1,Jo .frozen (a1:(List Jb))),(2,.int .i64 a2),(7,.int .i64 r1),(16,Jo .frozen (a1:(List Jb))),(17,.int .i64 ((a1.length:Nat):Int)),(18,.int .i64 x8)],[],[],[]⟩) (fun (_:Unit)=>⟨[],[],[],[]⟩) h19 (by kernel_rfl) (fun _=>by kernel_rfl) ?_ ?_
 ·rintro x8 oh18 h18
  unfold Yz at h18
  refine Ja (Jf (zE (Jc (Ja ?_))))
  rcases Jk h18 with ⟨hb,h18⟩|⟨hb,h18⟩
  ·refine zT hb (Jj (Jc (Ja (Jn (Ja (Jf (zR 1 ?_)))))))
   obtain ⟨x15,h20,h18⟩:=Jh h18
   refine zI h20 (zE (Jc (Ja (Ja (Jf (zE (Jc ?_)))))))
   rcases Jk h18 with ⟨hb,h18⟩|⟨hb,h18⟩
   ·refine zT hb (Ja (Jf (zE (Jc (Jp (Ji (Jm (Ji ?_))))))))
    cases h18
    refine Kb fun he=>?_
    subst he
    have h21:=Ku h
    refine Jm (Ji ?_)
    cases h21
    exact zQ
   refine zU hb (Jj (Jc (Ja (Kv (by kernel_rfl) (by kernel_rfl) ?_))))
   obtain ⟨b16,h22,h18⟩:=Jh h18
   refine zR 3 ?_
   refine Kt 14 43 (.bool b16) ?_ ?_
   ·rcases Jk h22 with ⟨hb,h22⟩|⟨hb,h22⟩
    ·refine zS 29 hb (zR 7 ?_)
     obtain ⟨x17,h23,h22⟩:=Jh h22
     refine zI h23 (zR 2 ?_)
     obtain ⟨r18,h24,h22⟩:=Jh h22
     refine Ju (Qt _ _ r18 h24) (by kernel_rfl) (by kernel_rfl) ?_
     cases h22
     exact zF
    refine zS 29 hb ?_
    cases h22
    exact zF
   obtain ⟨b19,h25,h18⟩:=Jh h18
   refine zR 1 ?_
   refine Kt 10 54 (.bool b19) ?_ ?_
   ·rcases Jk h25 with ⟨hb,h25⟩|⟨hb,h25⟩
    ·refine zS 44 hb (zR 6 ?_)
     obtain ⟨r20,h26,h25⟩:=Jh h25
     refine Ju (Qt _ _ r20 h26) (by kernel_rfl) (by kernel_rfl) ?_
     cases h25
     exact zF
    refine zS 44 hb ?_
    cases h25
    exact zF
   refine zN (Jc ?_)
   rcases Jk h18 with ⟨hb,h18⟩|⟨hb,h18⟩
   ·refine zT hb (Ja (Jf (zE (Jc (Jp (Jm (Ji ?_)))))))
    cases h18
    refine Kb fun he=>?_
    subst he
    have h27:=Ku h
    refine Jm (Ji ?_)
    cases h27
    exact zQ
   refine zU hb (Jj (Kd (Jc (Jf (zE ?_)))))
   cases h18
   exact zB
  refine zU hb (Kc (Jv ?_))
  cases h18
  exact zX
 rintro _ s' rfl hs
 have h:=Kg h
 refine Jt (Jc (Ke hs (Ja (Jf (zE (Jc (Jp ?_)))))))
 cases h
 exact zQ
/-! walk.exists -/
noncomputable def Yj (a0:Jd) (a1:Int):Option Bool :=
 ((bif decide (0≤a1) then (
  some (decide (a1<((a0.Elements.length:Nat):Int)))
 ) else some false):Option Bool).bind fun b1 =>
 some b1
theorem Eg (a0:Jd) (a1:Int) (r:Bool) (h:Yj a0 a1=some r):Km Go.Proofs.Tryz.prog GlS 46 [Enc.pv a0,Enc.pv a1] (Enc.pv r):=by
 unfold Yj at h
 refine Jr Go.Proofs.Tryz.func46 (by rfl) rfl Go.Proofs.Tryz.ntmps46 (by rfl) rfl ?_
 refine Ja (Jf (zE (Jc (Ja (Jf ?_)))))
 obtain ⟨b1,h1,h⟩:=Jh h
 refine zR 3 ?_
 refine Kt 6 13 (.bool b1) ?_ ?_
 ·rcases Jk h1 with ⟨hb,h1⟩|⟨hb,h1⟩
  ·refine zS 7 hb (zR 3 ?_)
   refine Kf (L:=(a0.Elements:(List Jq))) (by kernel_rfl) ?_
   cases h1
   exact zF
  refine zS 7 hb ?_
  cases h1
  exact zF
 refine zE (Jc (Jp ?_))
 cases h
 exact zQ
/-! rail.Legs -/
noncomputable def Fy (a0:Int) (a1:Int):(Int×(List Int))→Option ((Int×(List Int))⊕((List Int)⊕(List Int))):=fun (x12,x13) =>
 bif decide (x12<10) then (
  onInl (α:=(List Int)) (β:=((Int×(List Int))⊕((List Int)⊕(List Int)))) (
   (ixO Kj x12).bind fun x23 =>
   bif ((decide (x23.kind_=a0))&&(decide (x23.in_=a1))) then (
    (Vv x13 [x23.out_]).bind fun x24 =>
    some (.inl x24)
   ) else (
    some (.inl x13)
   )
  ) fun x22 =>
  some (.inl (w64 (x12+1),x22))
 ) else (
  some (.inr (.inl x13))
 )
noncomputable def Dg (a0:Int) (a1:Int):Option (List Int) :=
 onInl (α:=(List Int)) (β:=(List Int)) (Kl (Fy a0 a1) (0,([]:(List Int)))) fun x19 =>
 some x19
theorem Jij (a0:Int) (a1:Int) (r:(List Int)) (h:Dg a0 a1=some r):Km Go.Proofs.Tryz.prog GlS 98 [Enc.pv a0,Enc.pv a1] (Jo (.own 100005) r):=by
 unfold Dg at h
 refine Jr Go.Proofs.Tryz.func98 (by rfl) rfl Go.Proofs.Tryz.ntmps98 (by rfl) rfl ?_
 refine Ja (Jf (zE (Jc (Ja (Jf (zE (Jc (Ja (Ja (Jf (zE (Jc (Jn ?_)))))))))))))
 refine Df 5 100005 1 8 (by kernel_rfl) (by kernel_rfl) ?_
 obtain ⟨o17,h17,h⟩:=Kq h
 refine Ki 29 0 (fun (x12,x13)=>⟨[(0,.int .i64 a0),(1,.int .i64 a1),(5,Jo (.own 100005) (x13:(List Int))),(8,.agg (Kj.flatMap cellsOf)),(9,.int .i64 x12)],[],[(100005,(((x13).map cellsOf).length,1))],[]⟩) (fun x19=>⟨[(5,Jo (.own 100005) (x19:(List Int)))],[],[(100005,(((x19).map cellsOf).length,1))],[]⟩) h17 (by kernel_rfl) (fun _=>by kernel_rfl) ?_ ?_
 ·rintro ⟨x12,x13⟩ oh16 h16
  unfold Fy at h16
  refine Ja (Jf (zE (Jc (Ja ?_))))
  rcases Jk h16 with ⟨hb,h16⟩|⟨hb,h16⟩
  ·refine zT hb (Jj (Jc ?_))
   obtain ⟨o20,h20,h16⟩:=Kq h16
   refine Vx (o:=o20) 29 (fun x22=>⟨[(0,.int .i64 a0),(1,.int .i64 a1),(5,Jo (.own 100005) (x22:(List Int))),(8,.agg (Kj.flatMap cellsOf)),(9,.int .i64 x12)],[],[(100005,(((x22).map cellsOf).length,1))],[]⟩) ?_ ?_
   ·refine Jn (Ja (Jf ?_))
    obtain ⟨x23,h21,h20⟩:=Jh h20
    refine Jvt (tab:=Kj) h21 true 10 4 (by kernel_rfl) (by kernel_rfl) (by kernel_rfl) (by kernel_rfl) ?_
    refine zE (Jc (Ja (Jf (zR 5 ?_))))
    refine Qb 5 21 ((decide (x23.kind_=a0))&&(decide (x23.in_=a1))) (fun x hx=>?_) ?_
    ·rcases Bq hx with ⟨hb,hx⟩|⟨hb,hx⟩
     ·refine zS 16 hb ?_
      subst hx
      exact zF
     refine zS 16 hb ?_
     subst hx
     exact zF
    refine zN (Jc ?_)
    rcases Jk h20 with ⟨hb,h20⟩|⟨hb,h20⟩
    ·refine zT hb (Jf (zR 4 ?_))
     obtain ⟨x24,h22,h20⟩:=Jh h20
     refine Zz (tk:=100005) h22 (by kernel_rfl) (by kernel_rfl) ?_
     refine zE (Kd ?_)
     cases h20
     exact zJ
    refine zU hb (Jj (Kd ?_))
    cases h20
    exact zJ
   rintro x22 rfl
   have h16:=Kg h16
   refine Jf (zE ?_)
   cases h16
   exact zB
  refine zU hb (Kc (Jv ?_))
  cases h16
  exact zX
 rintro x19 s' rfl hs
 have h:=Kg h
 refine Jt (Jc (Ke hs (Ja (Jf (zE (Jc (Jp ?_)))))))
 cases h
 exact zQ
theorem Jiu (a0:Int) (a1:Int) (r:(List Int)) (h:Dg a0 a1=some r):Km Go.Proofs.Tryz.prog GlS 98 [Enc.pv a0,Enc.pv a1] (Enc.pv r) :=
 (Jij a0 a1 r h).freeze (by kernel_rfl) (by kernel_rfl) (by kernel_rfl)
/-! walk.Branches -/
noncomputable def Zr (a1:Jg) (r3:(List Int)):(Int×(List Jb))→Option ((Int×(List Jb))⊕((List Jb)⊕(List Jb))):=fun (x9,x10) =>
 bif decide (x9<((r3.length:Nat):Int)) then (
  (ixO r3 x9).bind fun x14 =>
  (Vv x10 [(Jb.mk a1.El a1.Side x14)]).bind fun x15 =>
  some (.inl (w64 (x9+1),x15))
 ) else (
  some (.inr (.inl x10))
 )
noncomputable def Zl (a0:Jd) (a1:Jg):Option (List Jb) :=
 (Yj a0 a1.El).bind fun r1 =>
 bif (!r1) then (
  some ([]:(List Jb))
 ) else (
  (ixO a0.Elements a1.El).bind fun x2 =>
  (Dg x2.Kind a1.Side).bind fun r3 =>
  onInl (α:=(List Jb)) (β:=(List Jb)) (Kl (Zr a1 r3) (0,([]:(List Jb)))) fun x13 =>
  some x13
 )
theorem Jc0 (a0:Jd) (a1:Jg) (r:(List Jb)) (h:Zl a0 a1=some r):Km Go.Proofs.Tryz.prog GlS 63 [Enc.pv a0,Enc.pv a1] (Jo (.own 100005) r):=by
 unfold Zl at h
 refine Jr Go.Proofs.Tryz.func63 (by rfl) rfl Go.Proofs.Tryz.ntmps63 (by rfl) rfl ?_
 refine Ja (Jf (zE (Jc (Ja (Ja (Jf (zR 3 ?_)))))))
 obtain ⟨r1,h1,h⟩:=Jh h
 refine Ju (Eg _ _ r1 h1) (by kernel_rfl) (by kernel_rfl) (zE (Jc ?_))
 rcases Jk h with ⟨hb,h⟩|⟨hb,h⟩
 ·refine zT hb (Ja (Jf (zE (Jc (Df 4 100005 3 24 (by kernel_rfl) (by kernel_rfl) (Jp (Ji ?_)))))))
  cases h
  exact zQ
 refine zU hb (Jj (Jc (Ja (Jf (zE (Jc (Ja (Ja (Kv (by kernel_rfl) (by kernel_rfl) (zR 4 ?_))))))))))
 obtain ⟨x2,h2,h⟩:=Jh h
 refine zI h2 (zR 4 ?_)
 obtain ⟨r3,h3,h⟩:=Jh h
 refine Ju (Jiu _ _ r3 h3) (by kernel_rfl) (by kernel_rfl) ?_
 refine Kf (L:=(r3:(List Int))) (by kernel_rfl) ?_
 refine zE (Jc (Jn (Df 5 100005 3 24 (by kernel_rfl) (by kernel_rfl) ?_)))
 obtain ⟨o11,h11,h⟩:=Kq h
 refine Ki 39 0 (fun (x9,x10)=>⟨[(3,.ref 3 0),(5,Jo (.own 100005) (x10:(List Jb))),(22,Jo .frozen (r3:(List Int))),(23,.int .i64 ((r3.length:Nat):Int)),(24,.int .i64 x9)],[(3,.cells (cellsOf a1))],[(100005,(((x10).map cellsOf).length,3))],[]⟩) (fun x13=>⟨[(5,Jo (.own 100005) (x13:(List Jb)))],[],[(100005,(((x13).map cellsOf).length,3))],[]⟩) h11 (by kernel_rfl) (fun _=>by kernel_rfl) ?_ ?_
 ·rintro ⟨x9,x10⟩ oh10 h10
  unfold Zr at h10
  refine Ja (Jf (zE (Jc (Ja ?_))))
  rcases Jk h10 with ⟨hb,h10⟩|⟨hb,h10⟩
  ·refine zT hb (Jj (Jc (Ja (Jn (Ja (Jf ?_))))))
   obtain ⟨x14,h12,h10⟩:=Jh h10
   refine zI h12 (zE (Jc (Jf (zR 8 ?_))))
   obtain ⟨x15,h13,h10⟩:=Jh h10
   refine Zz (tk:=100005) h13 (by kernel_rfl) (by kernel_rfl) ?_
   refine zE (Kd (Jc (Jf (zE ?_))))
   cases h10
   exact zB
  refine zU hb (Kc (Jv ?_))
  cases h10
  exact zX
 rintro x13 s' rfl hs
 have h:=Kg h
 refine Jt (Jc (Ke hs (Ja (Jf (zE (Jc (Jp ?_)))))))
 cases h
 exact zQ
theorem Jcu (a0:Jd) (a1:Jg) (r:(List Jb)) (h:Zl a0 a1=some r):Km Go.Proofs.Tryz.prog GlS 63 [Enc.pv a0,Enc.pv a1] (Enc.pv r) :=
 (Jc0 a0 a1 r h).freeze (by kernel_rfl) (by kernel_rfl) (by kernel_rfl)
/-! route.left -/
noncomputable def Fa (a0:(List Jb)):Option Jg :=
 (ixO a0 (w64 (((a0.length:Nat):Int) - 1))).bind fun x1 =>
 some (Jg.mk x1.El x1.Out)
theorem Mm (a0:(List Jb)) (r:Jg) (h:Fa a0=some r):Km Go.Proofs.Tryz.prog GlS 67 [Enc.pv a0] (Enc.pv r):=by
 unfold Fa at h
 refine Jr Go.Proofs.Tryz.func67 (by rfl) rfl Go.Proofs.Tryz.ntmps67 (by rfl) rfl ?_
 refine Ja (Jf (zE (Jc (Ja (Jf (zR 2 ?_))))))
 refine Kf (L:=(a0:(List Jb))) (by kernel_rfl) ?_
 refine zR 1 ?_
 obtain ⟨x1,h1,h⟩:=Jh h
 refine zI h1 (zE (Jc (Ja (Jf (zE (Jc (Jp ?_)))))))
 cases h
 exact zQ
/-! layout.Signal -/
noncomputable def Cw (a0:Jd) (a1:Jg):Int→Option (Int⊕(Unit⊕Int)):=fun x2 =>
 bif decide (x2<((a0.Signals.length:Nat):Int)) then (
  (ixO a0.Signals x2).bind fun x4 =>
  bif Ka x4.At a1 then (
   some (.inr (.inr x2))
  ) else (
   some (.inl (w64 (x2+1)))
  )
 ) else (
  some (.inr (.inl ()))
 )
noncomputable def Va (a0:Jd) (a1:Jg):Option Int :=
 onInl (α:=Unit) (β:=Int) (Kl (Cw a0 a1) 0) fun _ =>
 some (-1)
theorem Yu (a0:Jd) (a1:Jg) (r:Int) (h:Va a0 a1=some r):Km Go.Proofs.Tryz.prog GlS 66 [Enc.pv a0,Enc.pv a1] (Enc.pv r):=by
 unfold Va at h
 refine Jr Go.Proofs.Tryz.func66 (by rfl) rfl Go.Proofs.Tryz.ntmps66 (by rfl) rfl ?_
 refine Ja (Jf (zE (Jc (Ja (Ja (Jf (zR 2 ?_)))))))
 refine Kf (L:=(a0.Signals:(List Js))) (by kernel_rfl) ?_
 refine zE (Jc (Jn ?_))
 obtain ⟨o6,h6,h⟩:=Kq h
 refine Ki 21 0 (fun x2=>⟨[(3,.ref 3 0),(8,Jo .frozen (a0.Signals:(List Js))),(9,.int .i64 ((a0.Signals.length:Nat):Int)),(10,.int .i64 x2)],[(3,.cells (cellsOf a1))],[],[]⟩) (fun (_:Unit)=>⟨[],[],[],[]⟩) h6 (by kernel_rfl) (fun _=>by kernel_rfl) ?_ ?_
 ·rintro x2 oh5 h5
  unfold Cw at h5
  refine Ja (Jf (zE (Jc (Ja ?_))))
  rcases Jk h5 with ⟨hb,h5⟩|⟨hb,h5⟩
  ·refine zT hb (Jj (Jc (Ja (Jn (Ja (Jf (zR 1 ?_)))))))
   obtain ⟨x4,h7,h5⟩:=Jh h5
   refine zI h7 (zE (Jc (Ja (Jf (zE (Jc ?_))))))
   rcases Jk h5 with ⟨hb,h5⟩|⟨hb,h5⟩
   ·refine zT hb (Ja (Jf (zE (Jc (Jp (Jm (Ji ?_)))))))
    cases h5
    refine Kb fun he=>?_
    subst he
    have h8:=Ku h
    refine Jm (Ji ?_)
    cases h8
    exact zQ
   refine zU hb (Jj (Kd (Jc (Jf (zE ?_)))))
   cases h5
   exact zB
  refine zU hb (Kc (Jv ?_))
  cases h5
  exact zX
 rintro _ s' rfl hs
 have h:=Kg h
 refine Jt (Jc (Ke hs (Ja (Jf (zE (Jc (Jp ?_)))))))
 cases h
 exact zQ
/-! walk.passage -/
noncomputable def Bo (a0:Jd):Option Jd :=
 some a0
theorem Pj (a0:Jd) (r:Jd) (h:Bo a0=some r):Km Go.Proofs.Tryz.prog GlS 96 [Enc.pv a0] (.fn 118 [.cptr (cellsOf r)]):=by
 unfold Bo at h
 refine Jr Go.Proofs.Tryz.func96 (by rfl) rfl Go.Proofs.Tryz.ntmps96 (by rfl) rfl ?_
 refine Ja (Jf (zE (Jc (Ja (Jf (zE (Jc ?_)))))))
 refine Jxk 1 [] (cs:=cellsOf a0) (cs':=cellsOf a0) (by kernel_rfl) (by kernel_rfl) (by kernel_rfl) (by kernel_rfl) ?_
 refine Jp ?_
 cases h
 exact zQ
/-! walk.passage$1 -/
noncomputable def Ym (a0:Jb) (c0:Jd):Option (Jg×Bool) :=
 (Ww c0 (Jg.mk a0.El a0.Out)).bind fun r1 =>
 some (r1.1,r1.2)
theorem Na (a0:Jb) (c0:Jd) (r:(Jg×Bool)) (h:Ym a0 c0=some r):Km Go.Proofs.Tryz.prog GlS 118 [Enc.pv a0,.cptr (cellsOf c0)] (.tup [Enc.pv r.1,Enc.pv r.2]):=by
 unfold Ym at h
 refine Jr Go.Proofs.Tryz.func118 (by rfl) rfl Go.Proofs.Tryz.ntmps118 (by rfl) rfl ?_
 refine Ja (Jf (zE (Jc (Ja (Jf (zR 6 ?_))))))
 obtain ⟨r1,h1,h⟩:=Jh h
 refine Ju (Gu _ _ r1 h1) (by kernel_rfl) (by kernel_rfl) (zE (Jc (Jp ?_)))
 cases h
 exact zQ
/-! walk.Next -/
noncomputable def Ha (a0:Jd) (a1:Jb):Option (Jg×Bool) :=
 (Bo a0).bind fun r1 =>
 (Ym a1 r1).bind fun r2 =>
 some (r2.1,r2.2)
theorem Jai (a0:Jd) (a1:Jb) (r:(Jg×Bool)) (h:Ha a0 a1=some r):Km Go.Proofs.Tryz.prog GlS 97 [Enc.pv a0,Enc.pv a1] (.tup [Enc.pv r.1,Enc.pv r.2]):=by
 unfold Ha at h
 refine Jr Go.Proofs.Tryz.func97 (by rfl) rfl Go.Proofs.Tryz.ntmps97 (by rfl) rfl ?_
 refine Ja (Jf (zE (Jc (Ja (Kv (by kernel_rfl) (by kernel_rfl) (zR 1 ?_))))))
 obtain ⟨r1,h1,h⟩:=Jh h
 refine Ju (Pj _ r1 h1) (by kernel_rfl) (by kernel_rfl) (zR 1 ?_)
 obtain ⟨r2,h2,h⟩:=Jh h
 refine Ju (Na _ _ r2 h2) (by kernel_rfl) (by kernel_rfl) (zE (Jc (Jp ?_)))
 cases h
 exact zQ
/-! slices.Clone[[]api.Step,api.Step] -/
noncomputable def Qf (a0:(List Jb)):Option (List Jb) :=
 (Vv ([]:(List Jb)) a0).bind fun x1 =>
 some x1
theorem Uc (a0:(List Jb)) (r:(List Jb)) (h:Qf a0=some r):Jmb Go.Proofs.Tryz.prog GlS 65 [Enc.pv a0] 3 24 (r.map cellsOf):=by
 unfold Qf at h
 refine Jjk Go.Proofs.Tryz.func65 (by rfl) rfl Go.Proofs.Tryz.ntmps65 (by rfl) rfl ?_
 refine Ja (Jf (zE (Jc (Ja (Ja (Jf (zE (Jc ?_))))))))
 refine Jrq (e:=((a0:(List Jb)).map cellsOf).isEmpty) (by kernel_rfl) (fun hub=>?_) ?_
 ·have hN:=Jq9 (Jwd hub) h
  refine Ja (Jf (zE (Jc (Ke (Jn0 2 100002 3 24 (by kernel_rfl) (by kernel_rfl)) (Jp (Ji ?_))))))
  have hq:=Option.some.inj hN
  subst hq
  exact Jsj 100002 (((([]:(List Jb)):(List Jb)).map cellsOf).length) (by kernel_rfl)
 refine Jj (Jc (Ja (Jf (zR 2 ?_))))
 obtain ⟨x1,h1,h⟩:=Jh h
 refine Juq (tk:=7) (x:=.lst .full 3 24 []) h1 (.inr ⟨_,_,rfl⟩) (by kernel_rfl) (by kernel_rfl) ?_
 refine zE (Jc (Jp ?_))
 have hq:=Option.some.inj h
 subst hq
 exact Jsj 7 (((x1:(List Jb)).map cellsOf).length) (by kernel_rfl)
end PM
