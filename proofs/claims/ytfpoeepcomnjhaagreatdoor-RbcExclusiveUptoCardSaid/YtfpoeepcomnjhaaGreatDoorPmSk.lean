/-
 THE PURE MACHINE, Sk: cells that are numbers, truth values, strings.
-/
import Derived.Test.YtfpoeepcomnjhaaGreatDoorPmQ
namespace PM
open Go Go.RowKit
def Ki5 : PV->Value
 | .int k n=>.int k n
 | .bool b=>.bool b
 | .str s=>.string s
 | _=>undef
def Jt6 : PV->Bool
 | .int _ _|.bool _|.str _=>true
 | _=>false
theorem Js4 {S:Qa} {w:World} {p:PV} {v:Value} (h:Jt6 p=true):Jr S w p v↔v=Ki5 p:=by
 cases p <;> simp only [Jt6,Bool.false_eq_true] at h <;> simp only [Jr,Ki5]
theorem Jp1 {S:Qa} {w:World} {ps:List PV} {vs:List Value} (h:ps.all Jt6=true):Kf (fun p v=>Jr S w p v/\p.one=true) ps vs↔vs=ps.map Ki5:=by
 induction ps generalizing vs with
 | nil=>exact ⟨fun q=>q.nil_left,fun q=>by subst q; exact .nil⟩
 | cons p ps ih =>
  simp only [List.all_cons,Bool.and_eq_true] at h;constructor
  ·intro q;obtain ⟨v,vs',rfl,h1,h2⟩:=q.cons_left;rw [(Js4 h.1).1 h1.1,(ih h.2).1 h2]; rfl
  ·intro q;subst q;refine .cons ⟨(Js4 h.1).2 rfl, ?_⟩ ((ih h.2).2 rfl);cases p <;> simp only [Jt6,Bool.false_eq_true] at h <;> first|rfl|(exact absurd h.1 (by simp))
end PM
