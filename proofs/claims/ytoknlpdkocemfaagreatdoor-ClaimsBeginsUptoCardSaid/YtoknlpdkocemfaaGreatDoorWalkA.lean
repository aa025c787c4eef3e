/-
  PLAIN, WALK A: what the plain functions of the chapters 6, 7 and 9 come to.
-/
import Derived.Test.YtoknlpdkocemfaaGreatDoorPlA
import Derived.Test.YtoknlpdkocemfaaGreatDoorDen
namespace PM
open Go Go.RowKit

def needS (a0 a1 a2 : Int) : Int × Bool :=
  match tab_rail_passages.find? (fun x => decide (x.kind_ = a0) && decide (x.in_ = a1) && decide (x.out_ = a2)) with
  | some x => (x.need_, true)
  | none => (0, false)
def sidesS (a0 : Int) : Int := if a0 = 1 then 2 else if a0 = 2 then 3 else if a0 = 3 then 4 else 0

theorem kinds (a : Int) : a = 1 ∨ a = 2 ∨ a = 3 ∨ (¬ a = 1 ∧ ¬ a = 2 ∧ ¬ a = 3 ∧ ¬ 1 = a ∧ ¬ 2 = a ∧ ¬ 3 = a) := by omega
theorem sides4 (a : Int) : a = 0 ∨ a = 1 ∨ a = 2 ∨ a = 3 ∨ (¬ a = 0 ∧ ¬ a = 1 ∧ ¬ a = 2 ∧ ¬ a = 3 ∧ ¬ 0 = a ∧ ¬ 1 = a ∧ ¬ 2 = a ∧ ¬ 3 = a) := by omega
set_option maxRecDepth 10000
theorem d_rail_Need_eq (a0 a1 a2 : Int) : d_rail_Need a0 a1 a2 = some (needS a0 a1 a2) := by
  unfold d_rail_Need needS
  rw [loop_find (fun x => decide (x.kind_ = a0) && decide (x.in_ = a1) && decide (x.out_ = a2)) (fun x => .inr (x.need_, true)) (.inl ()) tab_rail_passages (by decide)]
  · cases tab_rail_passages.find? (fun x => decide (x.kind_ = a0) && decide (x.in_ = a1) && decide (x.out_ = a2)) <;> rfl
  · intro i x h
    have hi : i < 10 := lt_of_get h
    simp only [d_rail_Need_0, ixO_nat h, show decide ((i : Int) < 10) = true by simp; omega, cond_true, Option.bind_some]
  · simp [d_rail_Need_0, tab_rail_passages]
theorem d_ref06_Need_eq (a0 a1 a2 : Int) : d_ref06_Need a0 a1 a2 = some (needS a0 a1 a2) := by
  unfold d_ref06_Need needS
  rcases kinds a0 with rfl | rfl | rfl | ⟨h1, h2, h3, h4, h5, h6⟩
  · simp [tab_rail_passages, Bool.cond_eq_ite]
    rcases sides4 a1 with rfl | rfl | rfl | rfl | ⟨g0, g1, g2, g3, g4, g5, g6, g7⟩ <;> rcases sides4 a2 with rfl | rfl | rfl | rfl | ⟨e0, e1, e2, e3, e4, e5, e6, e7⟩ <;> simp [*] <;> omega
  · simp [tab_rail_passages, Bool.cond_eq_ite]
    rcases sides4 a1 with rfl | rfl | rfl | rfl | ⟨g0, g1, g2, g3, g4, g5, g6, g7⟩ <;> rcases sides4 a2 with rfl | rfl | rfl | rfl | ⟨e0, e1, e2, e3, e4, e5, e6, e7⟩ <;> simp [*] <;> (repeat' split) <;> first | rfl | omega
  · simp [tab_rail_passages, Bool.cond_eq_ite]
    rcases sides4 a1 with rfl | rfl | rfl | rfl | ⟨g0, g1, g2, g3, g4, g5, g6, g7⟩ <;> rcases sides4 a2 with rfl | rfl | rfl | rfl | ⟨e0, e1, e2, e3, e4, e5, e6, e7⟩ <;> simp [*] <;> omega
  · simp [tab_rail_passages, *]
end PM
