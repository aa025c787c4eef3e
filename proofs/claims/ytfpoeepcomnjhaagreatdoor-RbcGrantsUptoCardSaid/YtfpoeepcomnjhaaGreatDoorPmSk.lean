/-
 THE PURE MACHINE, Sk: cells that are numbers, truth values, strings.
-/
import Derived.Test.YtfpoeepcomnjhaaGreatDoorPmQ
namespace PM
open Go Go.RowKit
def Kik : PV->Value
 | .int k n=>.int k n
 | .bool b=>.bool b
 | .str s=>.string s
 | _=>undef
def Jwz : PV->Bool
 | .int _ _|.bool _|.str _=>true
 | _=>false
theorem Jvt{S:Qa}{w:World}{p:PV}{v:Value}(h:Jwz p=true):Jv S w p v↔v=Kik p:=by
 cases p <;> simp only [Jwz,aQ] at h <;> simp only [Jv,Kik]
theorem Jr1{S:Qa}{w:World}{ps:List PV}{vs:List Value}(h:ps.all Jwz=true):Kg (fun p v=>Jv S w p v/\p.one=true) ps vs↔vs=ps.map Kik:=by
 induction ps generalizing vs with
 | nil=>exact ⟨fun q=>q.nil_left,fun q=>by subst q; exact .nil⟩
 | cons p ps ih=>
  simp only [List.all_cons,aI] at h;constructor
  ·intro q;obtain ⟨v,vs',rfl,h1,h2⟩:=q.cons_left;rw [(Jvt h.1).1 h1.1,(ih h.2).1 h2]; rfl
  ·intro q;subst q;refine .cons ⟨(Jvt h.1).2 rfl, ?_⟩ ((ih h.2).2 rfl);cases p <;> simp only [Jwz,aQ] at h <;> first|rfl|(exact absurd h.1 sG)
end PM
