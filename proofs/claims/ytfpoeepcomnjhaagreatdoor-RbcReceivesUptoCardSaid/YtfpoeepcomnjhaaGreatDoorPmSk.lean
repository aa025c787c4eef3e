/-
 THE PURE MACHINE, Sk: cells that are numbers, truth values, strings.
-/
import Derived.Test.YtfpoeepcomnjhaaGreatDoorPmQ
namespace PM
open Go Go.RowKit
def Kb4 : PV->Value
 | .int k n=>.int k n
 | .bool b=>.bool b
 | .str s=>.string s
 | _=>undef
def Jsc : PV->Bool
 | .int _ _|.bool _|.str _=>true
 | _=>false
theorem Jsj{S:Ks}{w:World}{p:PV}{v:Value}(h:Jsc p=true):Js S w p v↔v=Kb4 p:=by
 cases p <;> simp only [Jsc,aP] at h <;> simp only [Js,Kb4]
theorem Jot{S:Ks}{w:World}{ps:List PV}{vs:List Value}(h:ps.all Jsc=true):Ke (fun p v=>Js S w p v/\p.one=true) ps vs↔vs=ps.map Kb4:=by
 induction ps generalizing vs with
 | nil=>exact ⟨fun q=>q.nil_left,fun q=>by subst q; exact .nil⟩
 | cons p ps ih=>
  simp only [List.all_cons,aF] at h;constructor
  ·intro q;obtain ⟨v,vs',rfl,h1,h2⟩:=q.cons_left;rw [(Jsj h.1).1 h1.1,(ih h.2).1 h2]; rfl
  ·intro q;subst q;refine .cons ⟨(Jsj h.1).2 rfl, ?_⟩ ((ih h.2).2 rfl);cases p <;> simp only [Jsc,aP] at h <;> first|rfl|(exact absurd h.1 sG)
end PM
