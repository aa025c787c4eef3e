/-
  THE PURE MACHINE, Sk: cells that are numbers, truth values, strings.
-/
import Derived.Test.YtmbcgmlgbcookaaDoorPmQ
namespace PM
open Go Go.RowKit
def litV : PV → Value
  | .int k n => .int k n
  | .bool b => .bool b
  | .str s => .string s
  | _ => undef
def flatC : PV → Bool
  | .int _ _ | .bool _ | .str _ => true
  | _ => false
theorem relD_lit {S : Cells} {w : World} {p : PV} {v : Value} (h : flatC p = true) : RelD S w p v ↔ v = litV p := by
  cases p <;> simp only [flatC, Bool.false_eq_true] at h <;> simp only [RelD, litV]
theorem relDs_lit {S : Cells} {w : World} {ps : List PV} {vs : List Value} (h : ps.all flatC = true) : All2 (fun p v => RelD S w p v ∧ p.one = true) ps vs ↔ vs = ps.map litV := by
  induction ps generalizing vs with
  | nil => exact ⟨fun q => q.nil_left, fun q => by subst q; exact .nil⟩
  | cons p ps ih =>
    simp only [List.all_cons, Bool.and_eq_true] at h
    constructor
    · intro q
      obtain ⟨v, vs', rfl, h1, h2⟩ := q.cons_left
      rw [(relD_lit h.1).1 h1.1, (ih h.2).1 h2]; rfl
    · intro q
      subst q
      refine .cons ⟨(relD_lit h.1).2 rfl, ?_⟩ ((ih h.2).2 rfl)
      cases p <;> simp only [flatC, Bool.false_eq_true] at h <;> first | rfl | (exact absurd h.1 (by simp))
theorem litV_one {p : PV} (h : flatC p = true) : (litV p).oneCell' = true := by
  cases p <;> simp only [flatC, Bool.false_eq_true] at h <;> rfl
end PM
