/-
 THE PURE MACHINE, So: slices.SortFunc at structs, as a call that changes a list in place (over the shelf's contract).
-/
import Derived.Test.YtfpoeepcomnjhaaGreatDoorPmQ
import Derived.Shelf.SlSortCmp.NoneTotal
namespace PM
open Go Go.RowKit
def Kai : PV→Value
 | .int k n=>.int k n
 | .bool b=>.bool b
 | .str s=>.string s
 | _=>undef
def Jtp : PV→Bool
 | .int _ _|.bool _|.str _=>true
 | _=>false
theorem Jsn {S:Qg} {w:World} {p:PV} {v:Value} (h:Jtp p=true):Ke S w p v↔v=Kai p:=by
 cases p <;> simp only [Jtp,Bool.false_eq_true] at h <;> simp only [Ke,Kai]
theorem Jpw {S:Qg} {w:World} {ps:List PV} {vs:List Value} (h:ps.all Jtp=true):Kp (fun p v=>Ke S w p v∧p.one=true) ps vs↔vs=ps.map Kai:=by
 induction ps generalizing vs with
 | nil=>exact ⟨fun q=>q.nil_left,fun q=>by subst q; exact .nil⟩
 | cons p ps ih =>
  simp only [List.all_cons,Bool.and_eq_true] at h;constructor
  ·intro q;obtain ⟨v,vs',rfl,h1,h2⟩:=q.cons_left;rw [(Jsn h.1).1 h1.1,(ih h.2).1 h2]; rfl
  ·intro q;subst q;refine .cons ⟨(Jsn h.1).2 rfl, ?_⟩ ((ih h.2).2 rfl);cases p <;> simp only [Jtp,Bool.false_eq_true] at h <;> first|rfl|(exact absurd h.1 (by simp))
section
variable {P:Program} {ρ:Go.Shelf.Ren} {α:Type} [Inhabited α] [Enc α] {Gl:Nat→Option (List PV)}
end
end PM
