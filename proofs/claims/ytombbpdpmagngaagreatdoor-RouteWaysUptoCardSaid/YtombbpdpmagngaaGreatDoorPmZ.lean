/-
 THE PURE MACHINE, Z: short forms (what the kernel checks comes by itself), for squeeze.py.
-/
import Derived.Test.YtombbpdpmagngaaGreatDoorPmV
namespace PM
open Go Go.RowKit
section
variable {P:Program} {Gl:Nat→Option (List PV)} {d:Bool} {L Ls:List (Oper×Gd)} {s s1:PSt} {Q:PSt→Prop} {α:Type} [Enc α]
omit [Enc α] in
theorem zE (h2:Q (pxr P Gl L s).1) (h:(pxr P Gl L s).2=true:=by kernel_rfl):Kp P Gl d L s (Up Q):=Jwz h h2
omit [Enc α] in
theorem zN (h2:Q s) (h:L.isEmpty=true:=by kernel_rfl):Kp P Gl d L s (Up Q):=Jww h h2
omit [Enc α] in
theorem zR (n:Nat) (h2:Kp P Gl d (L.drop n) (pxr P Gl (L.take n) s).1 Q) (h:(pxr P Gl (L.take n) s).2=true:=by kernel_rfl):Kp P Gl d L s Q:=Jw9 n h h2
omit [Enc α] in
theorem zF (h:(pxr P Gl L s).2=true:=by kernel_rfl) (h2:(((pxr P Gl L s).1).H,((pxr P Gl L s).1).T,((pxr P Gl L s).1).X,(((pxr P Gl L s).1).tm.length,((pxr P Gl L s).1).m),Jek s1.tm ((pxr P Gl L s).1).tm)=(s1.H,s1.T,s1.X,(s1.tm.length,s1.m),s1.tm):=by kernel_rfl):Kp P Gl d L s fun s'=>Zx s' s1:=Jwx h h2
omit [Enc α] in
theorem zS {b c:Bool} (t:Nat) (hb:b=c) (h:Kp P Gl d (Lh t c L) s Q) (hg:s.get t=.bool b:=by kernel_rfl) (hs:Ji6 t L=true:=by kernel_rfl):Kp P Gl d L s Q:=Jth t hb hg hs h
theorem zI {L:List α} {i:Int} {y:α} (hy:ixO L i=some y) (h2:Kp P Gl d (Ls.drop 1) (s.put (Vd Ls) (.cptr (cellsOf y))) Q) (h:Mu P Gl Ls s=Jsx (Enc.k α) (L.map cellsOf) i:=by kernel_rfl):Kp P Gl d Ls s Q:=p_ix hy h h2
end
section
variable {P:Program} {Gl:Nat→Option (List PV)} {x y:Code} {s:PSt} {Q:Exit→PSt→Prop}
theorem zT {c:Operand} {b:Bool} (hb:b=true) (hp:pwp P Gl x Q s) (h:s.ev c=.bool b:=by kernel_rfl):pwp P Gl (.cond c x y) Q s:=Jn9 hb h hp
theorem zU {c:Operand} {b:Bool} (hb:b=false) (hp:pwp P Gl y Q s) (h:s.ev c=.bool b:=by kernel_rfl):pwp P Gl (.cond c x y) Q s:=Jm6 hb h hp
theorem zQ {rs:List ResultVar} {r:PV} (h:(Je1 P Gl rs s).map (fun v=>(Tl v,Cu r v))=some (true,r):=by kernel_rfl) (hl:Hm (fun _=>none) (Jov r) r=true:=by kernel_rfl)
  (ht:(Ci r).map (fun x=>s.T x.1)=(Ci r).map fun x=>some x.2:=by kernel_rfl):Jtf P Gl rs r .ret s:=Jxj h hl ht
end
section
variable {σ α β:Type} {n id:Nat} {Q:Exit→PSt→Prop} {s:PSt} {r:α⊕β}
theorem zB {J:σ→JS} {J0:α→JS} {v':σ} (h:(J v').seen s=(J v').told n:=by kernel_rfl):Nq J J0 n id Q r (.inl v') .normal s:=Jvd h
theorem zX {J:σ→JS} {J0:α→JS} {v:α} (hok:(J0 v).ok=true:=by kernel_rfl) (h:(J0 v).seen s=(J0 v).told n:=by kernel_rfl):Nq J J0 n id Q r (.inr (.inl v)) (.exit id) s:=Jur hok h
theorem zJ {J:α→JS} {v:α} (hok:(J v).ok=true:=by kernel_rfl) (h:(J v).seen s=(J v).told n:=by kernel_rfl):Jdb (β:=β) J n Q (.inl v) .normal s:=Jwf hok h
end
end PM
